/- Each function of the group WR does what its plain function says, and changes nothing that was there; proved by walking its code. No condition. -/
import Derived.Test.YtobeonkddamnoaaDoorQw
import Derived.Test.YtobeonkddamnoaaDoorMWR
namespace Go.Proofs.YtobeonkddamnoaaDoor.C
open Go.RowKit Go.Proofs.YtobeonkddamnoaaDoorW.PrintWords Go.Proofs.YtobeonkddamnoaaDoorW.PrintLast Go.Proofs.YtobeonkddamnoaaDoor.Q Go.Proofs.YtobeonkddamnoaaDoor.M
set_option linter.unusedVariables false
set_option linter.unusedSimpArgs false
def b1 (g : Nat) (x0 : Int) (x1 : Int) (x2 : Int) (x3 : Int) : Ob := blk g #[.int .i64 x0, .int .i64 x1, .int .i64 x2, .int .i64 x3] 30
def b2 (g : Nat) (x0 : Int) (x1 : Int) (x2 : Int) (x3 : Int) (x4 : Int) (x5 : Int) (x6 : Int) (x7 : Int) : Ob := blk g #[.int .i64 x0, .int .i64 x1, .int .i64 x2, .int .i64 x3, .int .i64 x4, .int .i64 x5, .int .i64 x6, .int .i64 x7] 97
def b3 (g : Nat) (x0 : Int) (x1 : Int) : Ob := blk g #[.int .i64 x0, .int .i64 x1] 3
def b4 (g : Nat) (x0 : Int) (x1 : Int) (x2 : Int) : Ob := blk g #[.int .i64 x0, .int .i64 x1, .int .i64 x2] 3
def r5 (A : Option Addr) (n c : Nat) (l : List Int) : Ob := row 33 (Value.int .u32) (.slice A n c) l
def b6 (g : Nat) (x0 : Option Addr) (x1 : Nat) (x2 : Nat) (x3 : Int) : Ob := blk g #[.slice x0 x1 x2, .int .u64 x3] 154
def b7 (g : Nat) (x0 : Nat) (x1 : Int) (x2 : Int) (x3 : Int) (x4 : Int) : Ob := blk g #[.pointer (some ⟨x0, 0, none⟩), .int .i64 x1, .int .i64 x2, .int .i64 x3, .int .i64 x4] 106
def b8 (g : Nat) (x0 : Int) (x1 : Int) (x2 : Int) : Ob := blk g #[.int .i64 x0, .int .i64 x1, .int .i64 x2] 166
def b9 (g : Nat) (x0 : Nat) : Ob := blk g #[.pointer (some ⟨x0, 0, none⟩)] 25
def b10 (g : Nat) (x0 : Int) : Ob := blk g #[.int .i64 x0] 3
def b11 (g : Nat) (x0 : Int) (x1 : Int) (x2 : Int) (x3 : Int) (x4 : Int) (x5 : Int) (x6 : Int) : Ob := blk g #[.int .i64 x0, .int .i64 x1, .int .i64 x2, .int .i64 x3, .int .i64 x4, .int .i64 x5, .int .i64 x6] 32
def b12 (g : Nat) (x0 : Int) (x1 : Int) (x2 : Int) (x3 : Int) (x4 : Int) : Ob := blk g #[.int .i64 x0, .int .i64 x1, .int .i64 x2, .int .i64 x3, .int .i64 x4] 108
def b13 (g : Nat) (x0 : Int) : Ob := blk g #[.int .u32 x0] 33
def b14 (g : Nat) (x0 : Int) (x1 : Int) : Ob := blk g #[.int .u32 x0, .int .u32 x1] 33
def b15 (g : Nat) (x0 : Int) (x1 : Int) (x2 : Int) (x3 : Int) (x4 : Int) (x5 : Int) (x6 : Int) (x7 : Int) : Ob := blk g #[.int .i64 x0, .int .i64 x1, .int .i64 x2, .int .i64 x3, .int .i64 x4, .int .i64 x5, .int .i64 x6, .int .i64 x7] 3
def r16 (A : Option Addr) (n c : Nat) (l : List Int) : Ob := row 3 (Value.int .i64) (.slice A n c) l
abbrev s17 : Kd (Int × Int) := (Kd.pair (Kd.int .i64) (Kd.int .i64))
theorem s17_at {F : Nat → Prop} {w W : World} {A : Option Addr} {n : Nat} {xs : List (Int × Int)} (h : Rd s17 F w A n xs) (hf : Fr F w W) (i : Int) (h0 : 0 ≤ i) (h1 : i < n) : ∃ ad, A = some ad ∧ W.cell? (ad.add (i.toNat * 2)) = some (.int .i64 ((rdOf (0, 0) xs i).1)) ∧ W.cell? ⟨(ad.add (i.toNat * 2)).block, (ad.add (i.toNat * 2)).off + 1, none⟩ = some (.int .i64 ((rdOf (0, 0) xs i).2)) := by
  obtain ⟨ad, c, e, hl, hk, hc⟩ := Rd.el h hf (0, 0) i h0 h1
  obtain ⟨_, _, rfl, rfl, rfl⟩ := hk
  exact ⟨ad, e, hc 0 _ rfl, hc 1 _ rfl⟩
def b18 (g : Nat) (x0 : Int) (x1 : Int) : Ob := blk g #[.int .i64 x0, .int .i64 x1] 63
def b19 (g : Nat) (x0 : Int) (x1 : Int) : Ob := blk g #[.int .i64 x0, .int .i64 x1] 142
def r20 (A : Option Addr) (n : Nat) (c : Nat × List In2) (l : List Li2) : Ob := orow 71 3 33 .i64 .u32 A n c l
def b21 (g : Nat)  : Ob := blk g #[.slice none 0 0, .slice none 0 0] 71
def b22 (g : Nat) (x0 : Option Addr) (x1 : Nat) (x2 : Nat) : Ob := blk g #[.slice x0 x1 x2, .slice none 0 0] 71
def b23 (g : Nat) (x0 : Option Addr) (x1 : Nat) (x2 : Nat) (x3 : Option Addr) (x4 : Nat) (x5 : Nat) : Ob := blk g #[.slice x0 x1 x2, .slice x3 x4 x5] 71
def b24 (g : Nat) (x0 : Option Addr) (x1 : Nat) (x2 : Nat) : Ob := blk g #[.slice none 0 0, .slice x0 x1 x2] 71

set_option maxHeartbeats 30000000 in
set_option maxRecDepth 100000 in
theorem ratio_Clamp.calls (a46 : Int) (a47 : Int) (a48 : Int) (r : Int) (w : World)  (HGl0 : Aside0 (Gl 0 #[.int .i64 0, .int .i64 0, .int .i64 0, .int .i64 0, .int .i64 0] (fps []) w)) (HS : Aside0 (Sep (fps []) w [] w)) (H : Aside0 (ratio_Clamp.f a46 a47 a48 = some r)) :
    Calls Tryd.prog 157 #[.int .i64 a46, .int .i64 a47, .int .i64 a48] w fun e w' => e = .returned (.int .i64 r) ∧ Sep (fps []) w [] w' := by
  unfold ratio_Clamp.f at H
  go_enter Tryd.func157, Tryd.ntmps157
  by_cases c49 : a46 > a48
  · replace H := if_yes c49 H
    have c49b0 : decide (a48 < a46) = true := decide_eq_true c49
    clear c49
    go_wp2_with fail
    go_ret
    rw [← some_eq H]
    exact ⟨(by first | rfl | (simp [IntKind.wrap_u32]; done)), HS.out⟩
  · replace H := if_no c49 H
    have c49b0 : decide (a48 < a46) = false := decide_eq_false c49
    clear c49
    by_cases c50 : a46 < a47
    · replace H := if_yes c50 H
      have c50b0 : decide (a46 < a47) = true := decide_eq_true c50
      skip
      go_wp2_with fail
      clear c50
      go_ret
      rw [← some_eq H]
      exact ⟨(by first | rfl | (simp [IntKind.wrap_u32]; done)), HS.out⟩
    · replace H := if_no c50 H
      have c50b0 : decide (a46 < a47) = false := decide_eq_false c50
      skip
      go_wp2_with fail
      clear c50
      go_ret
      rw [← some_eq H]
      exact ⟨(by first | rfl | (simp [IntKind.wrap_u32]; done)), HS.out⟩

set_option maxHeartbeats 30000000 in
set_option maxRecDepth 100000 in
theorem plan_within.calls (a43 : Int) (a44 : Int) (a45 : Int) (r : Bool) (w : World)  (HGl0 : Aside0 (Gl 0 #[.int .i64 0, .int .i64 0, .int .i64 0, .int .i64 0, .int .i64 0] (fps []) w)) (HS : Aside0 (Sep (fps []) w [] w)) (H : Aside0 (plan_within.f a43 a44 a45 = some r)) :
    Calls Tryd.prog 147 #[.int .i64 a43, .int .i64 a44, .int .i64 a45] w fun e w' => e = .returned (.bool r) ∧ Sep (fps []) w [] w' := by
  unfold plan_within.f at H
  go_enter Tryd.func147, Tryd.ntmps147
  go_wp2_with fail
  obtain ⟨t51, HA52, H⟩ := bind_some H
  refine (ratio_Clamp.calls a43 a44 a45 t51 _ ⟨HGl0.out.pass (l := []) HS.out⟩ ⟨Sep.start _⟩ HA52).mono ?_
  rintro e_ w53 ⟨rfl, hS⟩
  replace HS : Aside0 (Sep (fps []) w [] w53) := ⟨HS.out.call hS⟩
  clear hS
  go_wp2_with fail
  go_ret
  rw [← some_eq H]
  exact ⟨(by first | rfl | (simp [IntKind.wrap_u32]; done)), HS.out⟩

set_option maxHeartbeats 30000000 in
set_option maxRecDepth 100000 in
theorem plan_Check.calls (a35 : Int) (a36 : Int) (a37 : Int) (a38 : Int) (r : Int) (w : World)  (HGl0 : Aside0 (Gl 0 #[.int .i64 0, .int .i64 0, .int .i64 0, .int .i64 0, .int .i64 0] (fps []) w)) (HS : Aside0 (Sep (fps []) w [] w)) (H : Aside0 (plan_Check.f a35 a36 a37 a38 = some r)) :
    Calls Tryd.prog 121 #[.agg #[.int .i64 a35, .int .i64 a36, .int .i64 a37, .int .i64 a38]] w fun e w' => e = .returned (.int .i64 r) ∧ Sep (fps []) w [] w' := by
  unfold plan_Check.f at H
  go_enter Tryd.func121, Tryd.ntmps121
  go_wp2_with (first | ((with_reducible refine gate_dst (N := 1) rfl ?_); refine box_on ?hg (N := 1) ?hd (cs := #[.int .i64 a35, .int .i64 a36, .int .i64 a37, .int .i64 a38]) (t := 30) ?hr ?_; (case hd => rfl); (case hg => rfl); (case hr => first | (go_simp; done) | (go_simp; rfl)); intro g39 hg w40 hbox hb; replace HS : Aside0 (Sep (fps []) w [b1 g39 a35 a36 a37 a38] w40) := ⟨HS.out.box hg hbox hb⟩; clear hg hbox hb; have hc42 : w40.cell? ⟨g39, 0, none⟩ = some (.int .i64 a35) := blk_cellv (HS.out.at0) 0 rfl))
  clear hc42
  obtain ⟨t54, HA55, H⟩ := bind_some H
  refine (plan_within.calls a35 1 1048576 t54 _ ⟨HGl0.out.pass (l := []) HS.out⟩ ⟨Sep.start _⟩ HA55).mono ?_
  rintro e_ w56 ⟨rfl, hS⟩
  replace HS : Aside0 (Sep (fps []) w [b1 g39 a35 a36 a37 a38] w56) := ⟨HS.out.call hS⟩
  clear hS
  by_cases c57 : t54 = true
  · replace H := if_yes c57 H
    have c57b0 : t54 = true := c57
    have c57b1 : (!t54) = false := by rw [c57b0]; rfl
    clear c57
    have hc58 : w56.cell? ⟨g39, 1, none⟩ = some (.int .i64 a36) := blk_cellv (HS.out.at0) 1 rfl
    go_wp2_with fail
    clear hc58
    obtain ⟨t59, HA60, H⟩ := bind_some H
    refine (plan_within.calls a36 16 256 t59 _ ⟨HGl0.out.pass (l := []) HS.out⟩ ⟨Sep.start _⟩ HA60).mono ?_
    rintro e_ w61 ⟨rfl, hS⟩
    replace HS : Aside0 (Sep (fps []) w [b1 g39 a35 a36 a37 a38] w61) := ⟨HS.out.call hS⟩
    clear hS
    by_cases c62 : t59 = true
    · replace H := if_yes c62 H
      have c62b0 : t59 = true := c62
      have c62b1 : (!t59) = false := by rw [c62b0]; rfl
      clear c62
      have hc63 : w61.cell? ⟨g39, 2, none⟩ = some (.int .i64 a37) := blk_cellv (HS.out.at0) 2 rfl
      go_wp2_with fail
      clear hc63
      obtain ⟨t64, HA65, H⟩ := bind_some H
      refine (plan_within.calls a37 1 4096 t64 _ ⟨HGl0.out.pass (l := []) HS.out⟩ ⟨Sep.start _⟩ HA65).mono ?_
      rintro e_ w66 ⟨rfl, hS⟩
      replace HS : Aside0 (Sep (fps []) w [b1 g39 a35 a36 a37 a38] w66) := ⟨HS.out.call hS⟩
      clear hS
      by_cases c67 : t64 = true
      · replace H := if_yes c67 H
        have c67b0 : t64 = true := c67
        have c67b1 : (!t64) = false := by rw [c67b0]; rfl
        clear c67
        have hc68 : w66.cell? ⟨g39, 3, none⟩ = some (.int .i64 a38) := blk_cellv (HS.out.at0) 3 rfl
        go_wp2_with fail
        clear hc68
        obtain ⟨t69, HA70, H⟩ := bind_some H
        refine (plan_within.calls a38 1 65536 t69 _ ⟨HGl0.out.pass (l := []) HS.out⟩ ⟨Sep.start _⟩ HA70).mono ?_
        rintro e_ w71 ⟨rfl, hS⟩
        replace HS : Aside0 (Sep (fps []) w [b1 g39 a35 a36 a37 a38] w71) := ⟨HS.out.call hS⟩
        clear hS
        by_cases c72 : t69 = true
        · replace H := if_yes c72 H
          have c72b0 : t69 = true := c72
          have c72b1 : (!t69) = false := by rw [c72b0]; rfl
          clear c72
          by_cases c75 : (wrap64 (a35 * a36)) ≤ 4194304
          · replace H := if_yes c75 H
            have c75b0 : decide ((wrap64 (a35 * a36)) ≤ 4194304) = true := decide_eq_true c75
            clear c75
            have hc73 : w71.cell? ⟨g39, 0, none⟩ = some (.int .i64 a35) := blk_cellv (HS.out.at0) 0 rfl
            have hc74 : w71.cell? ⟨g39, 1, none⟩ = some (.int .i64 a36) := blk_cellv (HS.out.at0) 1 rfl
            replace HS : Aside0 (Sep (fps []) w [] w71) := ⟨HS.out.sub (.cons _ .slnil)⟩
            go_wp2_with fail
            clear hc73 hc74
            go_ret
            rw [← some_eq H]
            exact ⟨(by first | rfl | (simp [IntKind.wrap_u32]; done)), HS.out⟩
          · replace H := if_no c75 H
            have c75b0 : decide ((wrap64 (a35 * a36)) ≤ 4194304) = false := decide_eq_false c75
            clear c75
            have hc73 : w71.cell? ⟨g39, 0, none⟩ = some (.int .i64 a35) := blk_cellv (HS.out.at0) 0 rfl
            have hc74 : w71.cell? ⟨g39, 1, none⟩ = some (.int .i64 a36) := blk_cellv (HS.out.at0) 1 rfl
            replace HS : Aside0 (Sep (fps []) w [] w71) := ⟨HS.out.sub (.cons _ .slnil)⟩
            go_wp2_with fail
            clear hc73 hc74
            go_ret
            rw [← some_eq H]
            exact ⟨(by first | rfl | (simp [IntKind.wrap_u32]; done)), HS.out⟩
        · replace H := if_no c72 H
          have c72b0 : t69 = false := by simpa using c72
          have c72b1 : (!t69) = true := by rw [c72b0]; rfl
          clear c72
          replace HS : Aside0 (Sep (fps []) w [] w71) := ⟨HS.out.sub (.cons _ .slnil)⟩
          go_wp2_with fail
          go_ret
          rw [← some_eq H]
          exact ⟨(by first | rfl | (simp [IntKind.wrap_u32]; done)), HS.out⟩
      · replace H := if_no c67 H
        have c67b0 : t64 = false := by simpa using c67
        have c67b1 : (!t64) = true := by rw [c67b0]; rfl
        clear c67
        replace HS : Aside0 (Sep (fps []) w [] w66) := ⟨HS.out.sub (.cons _ .slnil)⟩
        go_wp2_with fail
        go_ret
        rw [← some_eq H]
        exact ⟨(by first | rfl | (simp [IntKind.wrap_u32]; done)), HS.out⟩
    · replace H := if_no c62 H
      have c62b0 : t59 = false := by simpa using c62
      have c62b1 : (!t59) = true := by rw [c62b0]; rfl
      clear c62
      replace HS : Aside0 (Sep (fps []) w [] w61) := ⟨HS.out.sub (.cons _ .slnil)⟩
      go_wp2_with fail
      go_ret
      rw [← some_eq H]
      exact ⟨(by first | rfl | (simp [IntKind.wrap_u32]; done)), HS.out⟩
  · replace H := if_no c57 H
    have c57b0 : t54 = false := by simpa using c57
    have c57b1 : (!t54) = true := by rw [c57b0]; rfl
    clear c57
    replace HS : Aside0 (Sep (fps []) w [] w56) := ⟨HS.out.sub (.cons _ .slnil)⟩
    go_wp2_with fail
    go_ret
    rw [← some_eq H]
    exact ⟨(by first | rfl | (simp [IntKind.wrap_u32]; done)), HS.out⟩

set_option maxHeartbeats 30000000 in
set_option maxRecDepth 100000 in
theorem ratio_counts.calls (a108 : Int) (r : Int) (w : World)  (HGl0 : Aside0 (Gl 0 #[.int .i64 0, .int .i64 0, .int .i64 0, .int .i64 0, .int .i64 0] (fps []) w)) (HS : Aside0 (Sep (fps []) w [] w)) (H : Aside0 (ratio_counts.f a108 = some r)) :
    Calls Tryd.prog 148 #[.int .i64 a108] w fun e w' => e = .returned (.int .i64 r) ∧ Sep (fps []) w [] w' := by
  unfold ratio_counts.f at H
  go_enter Tryd.func148, Tryd.ntmps148
  go_wp2_with fail
  obtain ⟨t109, HA110, H⟩ := bind_some H
  refine (ratio_Clamp.calls a108 0 1125899906842624 t109 _ ⟨HGl0.out.pass (l := []) HS.out⟩ ⟨Sep.start _⟩ HA110).mono ?_
  rintro e_ w111 ⟨rfl, hS⟩
  replace HS : Aside0 (Sep (fps []) w [] w111) := ⟨HS.out.call hS⟩
  clear hS
  go_wp2_with fail
  go_ret
  rw [← some_eq H]
  exact ⟨(by first | rfl | (simp [IntKind.wrap_u32]; done)), HS.out⟩

set_option maxHeartbeats 30000000 in
set_option maxRecDepth 100000 in
theorem ratio_zero.calls (a107 : Int) (r : Bool) (w : World)  (HGl0 : Aside0 (Gl 0 #[.int .i64 0, .int .i64 0, .int .i64 0, .int .i64 0, .int .i64 0] (fps []) w)) (HS : Aside0 (Sep (fps []) w [] w)) (H : Aside0 (ratio_zero.f a107 = some r)) :
    Calls Tryd.prog 150 #[.int .i64 a107] w fun e w' => e = .returned (.bool r) ∧ Sep (fps []) w [] w' := by
  unfold ratio_zero.f at H
  go_enter Tryd.func150, Tryd.ntmps150
  go_wp2_with fail
  obtain ⟨t112, HA113, H⟩ := bind_some H
  refine (ratio_counts.calls a107 t112 _ ⟨HGl0.out.pass (l := []) HS.out⟩ ⟨Sep.start _⟩ HA113).mono ?_
  rintro e_ w114 ⟨rfl, hS⟩
  replace HS : Aside0 (Sep (fps []) w [] w114) := ⟨HS.out.call hS⟩
  clear hS
  go_wp2_with fail
  go_ret
  rw [← some_eq H]
  exact ⟨(by first | rfl | (simp [IntKind.wrap_u32]; done)), HS.out⟩

set_option maxHeartbeats 30000000 in
set_option maxRecDepth 100000 in
theorem slices_IndexFunc_int_int_F150.calls (k : Nat) (l93 : List Int) (A94 : Option Addr) (n95 : Nat) (r : Int) (w : World) (HR96 : Aside0 (Rd (Kd.int .i64) (fps []) w A94 l93.length l93)) (HGl0 : Aside0 (Gl 0 #[.int .i64 0, .int .i64 0, .int .i64 0, .int .i64 0, .int .i64 0] (fps []) w)) (HS : Aside0 (Sep (fps []) w [] w)) (H : Aside0 (slices_IndexFunc_int_int_F150.f k l93 = some r)) :
    Calls Tryd.prog 158 #[.slice A94 l93.length n95, .func (.func 150) #[] #[]] w fun e w' => e = .returned (.int .i64 r) ∧ Sep (fps []) w [] w' := by
  unfold slices_IndexFunc_int_int_F150.f at H
  go_enter Tryd.func158, Tryd.ntmps158
  go_wp2_with fail
  obtain ⟨o119, AL120, H⟩ := bind_some H
  go_loopg [8] k (fun kq v8 wc => ∃ (x123 : Int), v8 = .int .i64 x123 ∧ Aside0 (slices_IndexFunc_int_int_F150.lo0 kq l93 x123 = some o119) ∧ Aside0 (Sep (fps []) w [] wc))
  case atStart => exact ⟨(0), (by first | rfl | (simp [IntKind.wrap_u32]; done)), AL120, ⟨HS.out⟩⟩
  case round =>
    clear AL120 HS
    obtain ⟨x123, rfl, AL120, HS⟩ := hrel
    obtain ⟨w121, rfl⟩ : ∃ x : World, x = wr := ⟨_, rfl⟩
    cases gk with
    | zero => exact absurd AL120.out (by simp [slices_IndexFunc_int_int_F150.lo0])
    | succ k122 =>
      have AL0 := AL120.out
      rw [slices_IndexFunc_int_int_F150.lo0] at AL0
      clear AL120
      have AL120 := Aside0.mk AL0
      clear AL0
      by_cases c124 : x123 < (l93.length : Int)
      · replace AL120 := if_yes c124 AL120
        have c124b0 : decide (x123 < (l93.length : Int)) = true := decide_eq_true c124
        clear c124
        by_cases c125 : 0 ≤ x123
        · replace AL120 := if_yes c125 AL120
          have c125b0 : decide (0 ≤ x123) = true := decide_eq_true c125
          have c125p : (0 ≤ x123) = True := eq_true c125
          clear c125
          have ip126 : (x123 < (l93.length : Int)) = True := eq_true (of_decide_eq_true c124b0)
          obtain ⟨hx127a, hx127e, hx127⟩ := Kd.at_int (Rd.read (fun _ _ _ _ h => h) HR96.out HS.out.fr) x123 (of_decide_eq_true c125b0) (of_decide_eq_true c124b0); cases hx127e
          go_wp2_with fail
          clear hx127
          obtain ⟨t115, HA128, AL120⟩ := bind_some AL120
          refine (ratio_zero.calls (rd l93 x123) t115 _ ⟨HGl0.out.pass (l := []) HS.out⟩ ⟨Sep.start _⟩ HA128).mono ?_
          rintro e_ w129 ⟨rfl, hS⟩
          replace HS : Aside0 (Sep (fps []) w [] w129) := ⟨HS.out.call hS⟩
          clear hS
          by_cases c130 : t115 = true
          · replace AL120 := if_yes c130 AL120
            have c130b0 : t115 = true := c130
            have c130b1 : (!t115) = false := by rw [c130b0]; rfl
            clear c130
            go_wp2_with fail
            have ho := some_eq AL120
            subst ho
            have H := lp_ret H
            go_ret
            rw [← some_eq H]
            exact ⟨(by first | rfl | (simp [IntKind.wrap_u32]; done)), HS.out⟩
          · replace AL120 := if_no c130 AL120
            have c130b0 : t115 = false := by simpa using c130
            have c130b1 : (!t115) = true := by rw [c130b0]; rfl
            clear c130
            go_wp2_with fail
            go_roundg k122
            case measure => exact Nat.lt_succ_self _
            case rel => exact ⟨(wrap64 (x123 + 1)), (by first | rfl | (simp [IntKind.wrap_u32]; done)), Aside0.mk AL120.out, ⟨HS.out⟩⟩
        · replace AL120 := if_no c125 AL120
          have c125b0 : decide (0 ≤ x123) = false := decide_eq_false c125
          clear c125
          exact (none_no AL120).elim
      · replace AL120 := if_no c124 AL120
        have c124b0 : decide (x123 < (l93.length : Int)) = false := decide_eq_false c124
        clear c124
        have ho := some_eq AL120
        subst ho
        clear AL120
        have H := lp_out H
        go_wp2_with fail
        go_ret
        rw [← some_eq H]
        exact ⟨(by first | rfl | (simp [IntKind.wrap_u32]; done)), HS.out⟩

set_option maxHeartbeats 30000000 in
set_option maxRecDepth 100000 in
theorem slices_ContainsFunc_int_int_F150.calls (k : Nat) (l89 : List Int) (A90 : Option Addr) (n91 : Nat) (r : Bool) (w : World) (HR92 : Aside0 (Rd (Kd.int .i64) (fps []) w A90 l89.length l89)) (HGl0 : Aside0 (Gl 0 #[.int .i64 0, .int .i64 0, .int .i64 0, .int .i64 0, .int .i64 0] (fps []) w)) (HS : Aside0 (Sep (fps []) w [] w)) (H : Aside0 (slices_ContainsFunc_int_int_F150.f k l89 = some r)) :
    Calls Tryd.prog 149 #[.slice A90 l89.length n91, .func (.func 150) #[] #[]] w fun e w' => e = .returned (.bool r) ∧ Sep (fps []) w [] w' := by
  unfold slices_ContainsFunc_int_int_F150.f at H
  go_enter Tryd.func149, Tryd.ntmps149
  go_wp2_with fail
  obtain ⟨t132, HA133, H⟩ := bind_some H
  refine (slices_IndexFunc_int_int_F150.calls _ l89 A90 n91 t132 _ ⟨Rd.pass (l := []) (by decide) (fun _ _ _ _ h => h) HR92.out HS.out⟩ ⟨HGl0.out.pass (l := []) HS.out⟩ ⟨Sep.start _⟩ HA133).mono ?_
  rintro e_ w134 ⟨rfl, hS⟩
  replace HS : Aside0 (Sep (fps []) w [] w134) := ⟨HS.out.call hS⟩
  clear hS
  go_wp2_with fail
  go_ret
  rw [← some_eq H]
  exact ⟨(by first | rfl | (simp [IntKind.wrap_u32]; done)), HS.out⟩

set_option maxHeartbeats 30000000 in
set_option maxRecDepth 100000 in
theorem ratio_Mul.calls (k : Nat) (l85 : List Int) (A86 : Option Addr) (n87 : Nat) (r : Int) (w : World) (HR88 : Aside0 (Rd (Kd.int .i64) (fps []) w A86 l85.length l85)) (HGl0 : Aside0 (Gl 0 #[.int .i64 0, .int .i64 0, .int .i64 0, .int .i64 0, .int .i64 0] (fps []) w)) (HS : Aside0 (Sep (fps []) w [] w)) (H : Aside0 (ratio_Mul.f k l85 = some r)) :
    Calls Tryd.prog 123 #[.slice A86 l85.length n87] w fun e w' => e = .returned (.int .i64 r) ∧ Sep (fps []) w [] w' := by
  unfold ratio_Mul.f at H
  go_enter Tryd.func123, Tryd.ntmps123
  go_wp2_with fail
  obtain ⟨t135, HA136, H⟩ := bind_some H
  refine (slices_ContainsFunc_int_int_F150.calls _ l85 A86 n87 t135 _ ⟨Rd.pass (l := []) (by decide) (fun _ _ _ _ h => h) HR88.out HS.out⟩ ⟨HGl0.out.pass (l := []) HS.out⟩ ⟨Sep.start _⟩ HA136).mono ?_
  rintro e_ w137 ⟨rfl, hS⟩
  replace HS : Aside0 (Sep (fps []) w [] w137) := ⟨HS.out.call hS⟩
  clear hS
  by_cases c138 : t135 = true
  · replace H := if_yes c138 H
    have c138b0 : t135 = true := c138
    have c138b1 : (!t135) = false := by rw [c138b0]; rfl
    clear c138
    go_wp2_with fail
    go_ret
    rw [← some_eq H]
    exact ⟨(by first | rfl | (simp [IntKind.wrap_u32]; done)), HS.out⟩
  · replace H := if_no c138 H
    have c138b0 : t135 = false := by simpa using c138
    have c138b1 : (!t135) = true := by rw [c138b0]; rfl
    clear c138
    go_wp2_with fail
    obtain ⟨o140, AL141, H⟩ := bind_some H
    go_loopg [3, 11] k (fun kq v3 v11 wc => ∃ (x144 : Int) (x145 : Int), v3 = .int .i64 x144 ∧ v11 = .int .i64 x145 ∧ Aside0 (ratio_Mul.lo0 kq l85 x144 x145 = some o140) ∧ Aside0 (Sep (fps []) w [] wc))
    case atStart => exact ⟨(1), (0), (by first | rfl | (simp [IntKind.wrap_u32]; done)), (by first | rfl | (simp [IntKind.wrap_u32]; done)), AL141, ⟨HS.out⟩⟩
    case round =>
      clear AL141 HS
      obtain ⟨x144, x145, rfl, rfl, AL141, HS⟩ := hrel
      obtain ⟨w142, rfl⟩ : ∃ x : World, x = wr := ⟨_, rfl⟩
      cases gk with
      | zero => exact absurd AL141.out (by simp [ratio_Mul.lo0])
      | succ k143 =>
        have AL0 := AL141.out
        rw [ratio_Mul.lo0] at AL0
        clear AL141
        have AL141 := Aside0.mk AL0
        clear AL0
        by_cases c146 : x145 < (l85.length : Int)
        · replace AL141 := if_yes c146 AL141
          have c146b0 : decide (x145 < (l85.length : Int)) = true := decide_eq_true c146
          clear c146
          by_cases c147 : 0 ≤ x145
          · replace AL141 := if_yes c147 AL141
            have c147b0 : decide (0 ≤ x145) = true := decide_eq_true c147
            have c147p : (0 ≤ x145) = True := eq_true c147
            clear c147
            have ip148 : (x145 < (l85.length : Int)) = True := eq_true (of_decide_eq_true c146b0)
            obtain ⟨hx149a, hx149e, hx149⟩ := Kd.at_int (Rd.read (fun _ _ _ _ h => h) HR88.out HS.out.fr) x145 (of_decide_eq_true c147b0) (of_decide_eq_true c146b0); cases hx149e
            go_wp2_with fail
            clear hx149
            obtain ⟨t150, HA151, AL141⟩ := bind_some AL141
            refine (ratio_counts.calls (rd l85 x145) t150 _ ⟨HGl0.out.pass (l := []) HS.out⟩ ⟨Sep.start _⟩ HA151).mono ?_
            rintro e_ w152 ⟨rfl, hS⟩
            replace HS : Aside0 (Sep (fps []) w [] w152) := ⟨HS.out.call hS⟩
            clear hS
            by_cases c153 : t150 = 0
            · replace AL141 := if_yes c153 AL141
              have c153b0 : (t150 == 0) = true := beq_iff_eq.mpr c153
              have c153b1 : (t150 != 0) = false := bne_eq_false_iff_eq.mpr c153
              exact (none_no AL141).elim
            · replace AL141 := if_no c153 AL141
              have c153b0 : (t150 == 0) = false := beq_eq_false_iff_ne.mpr c153
              have c153b1 : (t150 != 0) = true := bne_iff_ne.mpr c153
              by_cases c154 : x144 ≤ (wrap64 (Int.tdiv (1125899906842624 : Int) t150))
              · replace AL141 := if_yes c154 AL141
                have c154b0 : decide (x144 ≤ (wrap64 (Int.tdiv (1125899906842624 : Int) t150))) = true := decide_eq_true c154
                clear c154
                skip
                go_wp2_with fail
                clear c153
                go_roundg k143
                case measure => exact Nat.lt_succ_self _
                case rel => exact ⟨(wrap64 (x144 * t150)), (wrap64 (x145 + 1)), (by first | rfl | (simp [IntKind.wrap_u32]; done)), (by first | rfl | (simp [IntKind.wrap_u32]; done)), Aside0.mk AL141.out, ⟨HS.out⟩⟩
              · replace AL141 := if_no c154 AL141
                have c154b0 : decide (x144 ≤ (wrap64 (Int.tdiv (1125899906842624 : Int) t150))) = false := decide_eq_false c154
                clear c154
                skip
                go_wp2_with fail
                clear c153
                go_roundg k143
                case measure => exact Nat.lt_succ_self _
                case rel => exact ⟨(1125899906842624), (wrap64 (x145 + 1)), (by first | rfl | (simp [IntKind.wrap_u32]; done)), (by first | rfl | (simp [IntKind.wrap_u32]; done)), Aside0.mk AL141.out, ⟨HS.out⟩⟩
          · replace AL141 := if_no c147 AL141
            have c147b0 : decide (0 ≤ x145) = false := decide_eq_false c147
            clear c147
            exact (none_no AL141).elim
        · replace AL141 := if_no c146 AL141
          have c146b0 : decide (x145 < (l85.length : Int)) = false := decide_eq_false c146
          clear c146
          have ho := some_eq AL141
          subst ho
          clear AL141
          go_wp2_with fail
          go_ret
          rw [← some_eq H]
          exact ⟨(by first | rfl | (simp [IntKind.wrap_u32]; done)), HS.out⟩

set_option maxHeartbeats 30000000 in
set_option maxRecDepth 100000 in
theorem ratio_Add.calls (k : Nat) (l162 : List Int) (A163 : Option Addr) (n164 : Nat) (r : Int) (w : World) (HR165 : Aside0 (Rd (Kd.int .i64) (fps []) w A163 l162.length l162)) (HGl0 : Aside0 (Gl 0 #[.int .i64 0, .int .i64 0, .int .i64 0, .int .i64 0, .int .i64 0] (fps []) w)) (HS : Aside0 (Sep (fps []) w [] w)) (H : Aside0 (ratio_Add.f k l162 = some r)) :
    Calls Tryd.prog 122 #[.slice A163 l162.length n164] w fun e w' => e = .returned (.int .i64 r) ∧ Sep (fps []) w [] w' := by
  unfold ratio_Add.f at H
  go_enter Tryd.func122, Tryd.ntmps122
  go_wp2_with fail
  obtain ⟨o167, AL168, H⟩ := bind_some H
  go_loopg [3, 8] k (fun kq v3 v8 wc => ∃ (x171 : Int) (x172 : Int), v3 = .int .i64 x171 ∧ v8 = .int .i64 x172 ∧ Aside0 (ratio_Add.lo0 kq l162 x171 x172 = some o167) ∧ Aside0 (Sep (fps []) w [] wc))
  case atStart => exact ⟨(0), (0), (by first | rfl | (simp [IntKind.wrap_u32]; done)), (by first | rfl | (simp [IntKind.wrap_u32]; done)), AL168, ⟨HS.out⟩⟩
  case round =>
    clear AL168 HS
    obtain ⟨x171, x172, rfl, rfl, AL168, HS⟩ := hrel
    obtain ⟨w169, rfl⟩ : ∃ x : World, x = wr := ⟨_, rfl⟩
    cases gk with
    | zero => exact absurd AL168.out (by simp [ratio_Add.lo0])
    | succ k170 =>
      have AL0 := AL168.out
      rw [ratio_Add.lo0] at AL0
      clear AL168
      have AL168 := Aside0.mk AL0
      clear AL0
      by_cases c173 : x172 < (l162.length : Int)
      · replace AL168 := if_yes c173 AL168
        have c173b0 : decide (x172 < (l162.length : Int)) = true := decide_eq_true c173
        clear c173
        by_cases c174 : 0 ≤ x172
        · replace AL168 := if_yes c174 AL168
          have c174b0 : decide (0 ≤ x172) = true := decide_eq_true c174
          have c174p : (0 ≤ x172) = True := eq_true c174
          clear c174
          have ip175 : (x172 < (l162.length : Int)) = True := eq_true (of_decide_eq_true c173b0)
          obtain ⟨hx176a, hx176e, hx176⟩ := Kd.at_int (Rd.read (fun _ _ _ _ h => h) HR165.out HS.out.fr) x172 (of_decide_eq_true c174b0) (of_decide_eq_true c173b0); cases hx176e
          go_wp2_with fail
          clear hx176
          obtain ⟨t177, HA178, AL168⟩ := bind_some AL168
          refine (ratio_counts.calls (rd l162 x172) t177 _ ⟨HGl0.out.pass (l := []) HS.out⟩ ⟨Sep.start _⟩ HA178).mono ?_
          rintro e_ w179 ⟨rfl, hS⟩
          replace HS : Aside0 (Sep (fps []) w [] w179) := ⟨HS.out.call hS⟩
          clear hS
          by_cases c180 : 1125899906842624 < (wrap64 (x171 + t177))
          · replace AL168 := if_yes c180 AL168
            have c180b0 : decide (1125899906842624 < (wrap64 (x171 + t177))) = true := decide_eq_true c180
            skip
            go_wp2_with fail
            clear c180
            go_roundg k170
            case measure => exact Nat.lt_succ_self _
            case rel => exact ⟨(1125899906842624), (wrap64 (x172 + 1)), (by first | rfl | (simp [IntKind.wrap_u32]; done)), (by first | rfl | (simp [IntKind.wrap_u32]; done)), Aside0.mk AL168.out, ⟨HS.out⟩⟩
          · replace AL168 := if_no c180 AL168
            have c180b0 : decide (1125899906842624 < (wrap64 (x171 + t177))) = false := decide_eq_false c180
            skip
            go_wp2_with fail
            clear c180
            go_roundg k170
            case measure => exact Nat.lt_succ_self _
            case rel => exact ⟨(wrap64 (x171 + t177)), (wrap64 (x172 + 1)), (by first | rfl | (simp [IntKind.wrap_u32]; done)), (by first | rfl | (simp [IntKind.wrap_u32]; done)), Aside0.mk AL168.out, ⟨HS.out⟩⟩
        · replace AL168 := if_no c174 AL168
          have c174b0 : decide (0 ≤ x172) = false := decide_eq_false c174
          clear c174
          exact (none_no AL168).elim
      · replace AL168 := if_no c173 AL168
        have c173b0 : decide (x172 < (l162.length : Int)) = false := decide_eq_false c173
        clear c173
        have ho := some_eq AL168
        subst ho
        clear AL168
        go_wp2_with fail
        go_ret
        rw [← some_eq H]
        exact ⟨(by first | rfl | (simp [IntKind.wrap_u32]; done)), HS.out⟩

set_option maxHeartbeats 30000000 in
set_option maxRecDepth 100000 in
theorem ratio_by.calls (a391 : Int) (r : Int) (w : World)  (HGl0 : Aside0 (Gl 0 #[.int .i64 0, .int .i64 0, .int .i64 0, .int .i64 0, .int .i64 0] (fps []) w)) (HS : Aside0 (Sep (fps []) w [] w)) (H : Aside0 (ratio_by.f a391 = some r)) :
    Calls Tryd.prog 151 #[.int .i64 a391] w fun e w' => e = .returned (.int .i64 r) ∧ Sep (fps []) w [] w' := by
  unfold ratio_by.f at H
  go_enter Tryd.func151, Tryd.ntmps151
  go_wp2_with fail
  obtain ⟨t392, HA393, H⟩ := bind_some H
  refine (ratio_counts.calls a391 t392 _ ⟨HGl0.out.pass (l := []) HS.out⟩ ⟨Sep.start _⟩ HA393).mono ?_
  rintro e_ w394 ⟨rfl, hS⟩
  replace HS : Aside0 (Sep (fps []) w [] w394) := ⟨HS.out.call hS⟩
  clear hS
  by_cases c395 : t392 < 1
  · replace H := if_yes c395 H
    have c395b0 : decide (t392 < 1) = true := decide_eq_true c395
    skip
    go_wp2_with fail
    clear c395
    go_ret
    rw [← some_eq H]
    exact ⟨(by first | rfl | (simp [IntKind.wrap_u32]; done)), HS.out⟩
  · replace H := if_no c395 H
    have c395b0 : decide (t392 < 1) = false := decide_eq_false c395
    skip
    go_wp2_with fail
    clear c395
    go_ret
    rw [← some_eq H]
    exact ⟨(by first | rfl | (simp [IntKind.wrap_u32]; done)), HS.out⟩

set_option maxHeartbeats 30000000 in
set_option maxRecDepth 100000 in
theorem ratio_Up.calls (a386 : Int) (a387 : Int) (r : Int) (w : World)  (HGl0 : Aside0 (Gl 0 #[.int .i64 0, .int .i64 0, .int .i64 0, .int .i64 0, .int .i64 0] (fps []) w)) (HS : Aside0 (Sep (fps []) w [] w)) (H : Aside0 (ratio_Up.f a386 a387 = some r)) :
    Calls Tryd.prog 124 #[.int .i64 a386, .int .i64 a387] w fun e w' => e = .returned (.int .i64 r) ∧ Sep (fps []) w [] w' := by
  unfold ratio_Up.f at H
  go_enter Tryd.func124, Tryd.ntmps124
  go_wp2_with fail
  obtain ⟨t388, HA389, H⟩ := bind_some H
  refine (ratio_counts.calls a386 t388 _ ⟨HGl0.out.pass (l := []) HS.out⟩ ⟨Sep.start _⟩ HA389).mono ?_
  rintro e_ w390 ⟨rfl, hS⟩
  replace HS : Aside0 (Sep (fps []) w [] w390) := ⟨HS.out.call hS⟩
  clear hS
  go_wp2_with fail
  obtain ⟨t396, HA397, H⟩ := bind_some H
  refine (ratio_by.calls a387 t396 _ ⟨HGl0.out.pass (l := []) HS.out⟩ ⟨Sep.start _⟩ HA397).mono ?_
  rintro e_ w398 ⟨rfl, hS⟩
  replace HS : Aside0 (Sep (fps []) w [] w398) := ⟨HS.out.call hS⟩
  clear hS
  go_wp2_with fail
  obtain ⟨t399, HA400, H⟩ := bind_some H
  refine (ratio_by.calls a387 t399 _ ⟨HGl0.out.pass (l := []) HS.out⟩ ⟨Sep.start _⟩ HA400).mono ?_
  rintro e_ w401 ⟨rfl, hS⟩
  replace HS : Aside0 (Sep (fps []) w [] w401) := ⟨HS.out.call hS⟩
  clear hS
  by_cases c402 : t399 = 0
  · replace H := if_yes c402 H
    have c402b0 : (t399 == 0) = true := beq_iff_eq.mpr c402
    have c402b1 : (t399 != 0) = false := bne_eq_false_iff_eq.mpr c402
    exact (none_no H).elim
  · replace H := if_no c402 H
    have c402b0 : (t399 == 0) = false := beq_eq_false_iff_ne.mpr c402
    have c402b1 : (t399 != 0) = true := bne_iff_ne.mpr c402
    skip
    go_wp2_with fail
    clear c402
    go_ret
    rw [← some_eq H]
    exact ⟨(by first | rfl | (simp [IntKind.wrap_u32]; done)), HS.out⟩

set_option maxHeartbeats 30000000 in
set_option maxRecDepth 100000 in
theorem plan_Of.calls (k : Nat) (a21 : Int) (a22 : Int) (a23 : Int) (a24 : Int) (r : Int × Int × Int × Int × Int × Int × Int × Int × Int) (w : World)  (HGl0 : Aside0 (Gl 0 #[.int .i64 0, .int .i64 0, .int .i64 0, .int .i64 0, .int .i64 0] (fps []) w)) (HS : Aside0 (Sep (fps []) w [] w)) (H : Aside0 (plan_Of.f k a21 a22 a23 a24 = some r)) :
    Calls Tryd.prog 65 #[.agg #[.int .i64 a21, .int .i64 a22, .int .i64 a23, .int .i64 a24]] w fun e w' => e = .returned (.tuple #[.agg #[.int .i64 r.1, .int .i64 r.2.1, .int .i64 r.2.2.1, .int .i64 r.2.2.2.1, .int .i64 r.2.2.2.2.1, .int .i64 r.2.2.2.2.2.1, .int .i64 r.2.2.2.2.2.2.1, .int .i64 r.2.2.2.2.2.2.2.1], .int .i64 r.2.2.2.2.2.2.2.2]) ∧ Sep (fps []) w [] w' := by
  unfold plan_Of.f at H
  go_enter Tryd.func65, Tryd.ntmps65
  go_wp2_with (first | ((with_reducible refine gate_dst (N := 1) rfl ?_); refine box_on ?hg (N := 1) ?hd (cs := #[.int .i64 a21, .int .i64 a22, .int .i64 a23, .int .i64 a24]) (t := 30) ?hr ?_; (case hd => rfl); (case hg => rfl); (case hr => first | (go_simp; done) | (go_simp; rfl)); intro g25 hg w26 hbox hb; replace HS : Aside0 (Sep (fps []) w [b1 g25 a21 a22 a23 a24] w26) := ⟨HS.out.box hg hbox hb⟩; clear hg hbox hb) | ((with_reducible refine gate_dst (N := 2) rfl ?_); refine box_on ?hg (N := 2) ?hd (cs := #[.int .i64 0, .int .i64 0, .int .i64 0, .int .i64 0, .int .i64 0, .int .i64 0, .int .i64 0, .int .i64 0]) (t := 97) ?hr ?_; (case hd => rfl); (case hg => rfl); (case hr => first | (go_simp; done) | (go_simp; rfl)); intro g28 hg w29 hbox hb; replace HS : Aside0 (Sep (fps []) w [b1 g25 a21 a22 a23 a24, b2 g28 0 0 0 0 0 0 0 0] w29) := ⟨HS.out.box hg hbox hb⟩; clear hg hbox hb; have hc31 : w29.cell? ⟨g25, 0, none⟩ = some (.int .i64 a21) := blk_cellv (HS.out.at0) 0 rfl; have hc32 : w29.cell? ⟨g25, 1, none⟩ = some (.int .i64 a22) := blk_cellv (HS.out.at0) 1 rfl; have hc33 : w29.cell? ⟨g25, 2, none⟩ = some (.int .i64 a23) := blk_cellv (HS.out.at0) 2 rfl; have hc34 : w29.cell? ⟨g25, 3, none⟩ = some (.int .i64 a24) := blk_cellv (HS.out.at0) 3 rfl))
  clear hc31 hc32 hc33 hc34
  obtain ⟨t76, HA77, H⟩ := bind_some H
  refine (plan_Check.calls a21 a22 a23 a24 t76 _ ⟨HGl0.out.pass (l := []) HS.out⟩ ⟨Sep.start _⟩ HA77).mono ?_
  rintro e_ w78 ⟨rfl, hS⟩
  replace HS : Aside0 (Sep (fps []) w [b1 g25 a21 a22 a23 a24, b2 g28 0 0 0 0 0 0 0 0] w78) := ⟨HS.out.call hS⟩
  clear hS
  by_cases c79 : t76 = 0
  · replace H := if_yes c79 H
    have c79b0 : (t76 == 0) = true := beq_iff_eq.mpr c79
    have c79b1 : (t76 != 0) = false := bne_eq_false_iff_eq.mpr c79
    clear c79
    go_wp2_with fail
    obtain ⟨t156, HA157, H⟩ := bind_some H
    obtain ⟨t182, HA183, H⟩ := bind_some H
    go_cut [5] (fun v5 wc => ∃ (g82 : Nat) (g159 : Nat) (g185 : Nat), v5 = .pointer (some ⟨g185, 0, none⟩) ∧ Aside0 (Sep (fps []) w [b1 g25 a21 a22 a23 a24, b2 g28 0 0 0 0 0 0 0 0, b3 g82 a21 a22, b4 g159 24 a23 t156, b2 g185 t182 (wrap64 (a22 - 8)) 0 0 0 0 0 0] wc))
    case first =>
      go_wp2_with fail
      refine start_ (n := 16) (S := (fun w' => w'.cell? ⟨g25, 2, none⟩ = some (.int .i64 a23) ∧ w'.cell? ⟨g25, 0, none⟩ = some (.int .i64 a21) ∧ w'.cell? ⟨g25, 1, none⟩ = some (.int .i64 a22))) (ds := []) #[false, false, false, false, false, false, false, false, false, false, false, false, false, false, false, false] (by kernel_rfl) rfl rfl (⟨blk_cellv ((HS.out.drew).at0) 2 rfl, blk_cellv ((HS.out.drew).at0) 0 rfl, blk_cellv ((HS.out.drew).at0) 1 rfl⟩) (fun hHeld => ?_)
      have HS_ := Aside0.mk HS.out.drew
      clear HS
      generalize World.drew _ = w207 at HS_ hHeld ⊢
      have HS := HS_
      clear HS_
      refine pure_ (i := 0) (N := some 12) (v := ?_) (a' := ?_) #[true, false, false, false, false, false, false, false, false, false, false, false, false, false, false, false] rfl rfl (by kernel_rfl) (fun _ _ _ h => h) (Or.inl ⟨by rfl, ?_⟩) ?_ ?_
      rotate_left
      · intro w'
        go_simp
        with_reducible rfl
      rotate_left
      · simp only [Act.put, List.setIfInBounds_toArray, List.set_cons_zero, List.set_cons_succ, i64_w, i32_w]
        rfl
      refine pure_ (i := 2) (N := some 14) (v := ?_) (a' := ?_) #[true, false, true, false, false, false, false, false, false, false, false, false, false, false, false, false] rfl rfl (by kernel_rfl) (fun _ _ _ h => h) (Or.inl ⟨by rfl, ?_⟩) ?_ ?_
      rotate_left
      · intro w'
        go_simp
        with_reducible rfl
      rotate_left
      · simp only [Act.put, List.setIfInBounds_toArray, List.set_cons_zero, List.set_cons_succ, i64_w, i32_w]
        rfl
      refine pure_ (i := 4) (N := some 16) (v := ?_) (a' := ?_) #[true, false, true, false, true, false, false, false, false, false, false, false, false, false, false, false] rfl rfl (by kernel_rfl) (fun _ _ _ h => h) (Or.inl ⟨by rfl, ?_⟩) ?_ ?_
      rotate_left
      · intro w'
        go_simp
        with_reducible rfl
      rotate_left
      · simp only [Act.put, List.setIfInBounds_toArray, List.set_cons_zero, List.set_cons_succ, i64_w, i32_w]
        rfl
      refine pure_ (i := 10) (N := some 22) (v := ?_) (a' := ?_) #[true, false, true, false, true, false, false, false, false, false, true, false, false, false, false, false] rfl rfl (by kernel_rfl) (fun _ _ _ h => h) (Or.inl ⟨by rfl, ?_⟩) ?_ ?_
      rotate_left
      · intro w'
        go_simp
        with_reducible rfl
      rotate_left
      · simp only [Act.put, List.setIfInBounds_toArray, List.set_cons_zero, List.set_cons_succ, i64_w, i32_w]
        rfl
      refine take_ (i := 1) (N := some 13) (v := ?_) (a' := ?_) #[true, true, true, false, true, false, false, false, false, false, true, false, false, false, false, false] rfl rfl (by kernel_rfl) (fun _ _ _ h => h) (Or.inl ⟨by rfl, ?_⟩) hHeld ?_ ?_
      rotate_left
      · rintro w' hS'
        obtain ⟨s0, s1, s2⟩ := hS'
        go_simp
        with_reducible rfl
      rotate_left
      · simp only [Act.put, List.setIfInBounds_toArray, List.set_cons_zero, List.set_cons_succ, i64_w, i32_w]
        rfl
      refine take_ (i := 3) (N := some 15) (v := ?_) (a' := ?_) #[true, true, true, true, true, false, false, false, false, false, true, false, false, false, false, false] rfl rfl (by kernel_rfl) (fun _ _ _ h => h) (Or.inl ⟨by rfl, ?_⟩) hHeld ?_ ?_
      rotate_left
      · rintro w' hS'
        obtain ⟨s0, s1, s2⟩ := hS'
        go_simp
        with_reducible rfl
      rotate_left
      · simp only [Act.put, List.setIfInBounds_toArray, List.set_cons_zero, List.set_cons_succ, i64_w, i32_w]
        rfl
      refine take_ (i := 5) (N := some 17) (v := ?_) (a' := ?_) #[true, true, true, true, true, true, false, false, false, false, true, false, false, false, false, false] rfl rfl (by kernel_rfl) (fun _ _ _ h => h) (Or.inl ⟨by rfl, ?_⟩) hHeld ?_ ?_
      rotate_left
      · rintro w' hS'
        obtain ⟨s0, s1, s2⟩ := hS'
        go_simp
        with_reducible rfl
      rotate_left
      · simp only [Act.put, List.setIfInBounds_toArray, List.set_cons_zero, List.set_cons_succ, i64_w, i32_w]
        rfl
      refine take_ (i := 11) (N := some 23) (v := ?_) (a' := ?_) #[true, true, true, true, true, true, false, false, false, false, true, true, false, false, false, false] rfl rfl (by kernel_rfl) (fun _ _ _ h => h) (Or.inl ⟨by rfl, ?_⟩) hHeld ?_ ?_
      rotate_left
      · rintro w' hS'
        obtain ⟨s0, s1, s2⟩ := hS'
        go_simp
        with_reducible rfl
      rotate_left
      · simp only [Act.put, List.setIfInBounds_toArray, List.set_cons_zero, List.set_cons_succ, i64_w, i32_w]
        rfl
      refine pure_ (i := 12) (N := some 24) (v := ?_) (a' := ?_) #[true, true, true, true, true, true, false, false, false, false, true, true, true, false, false, false] rfl rfl (by kernel_rfl) (fun _ _ _ h => h) (Or.inl ⟨by rfl, ?_⟩) ?_ ?_
      rotate_left
      · intro w'
        go_simp
        with_reducible rfl
      rotate_left
      · simp only [Act.put, List.setIfInBounds_toArray, List.set_cons_zero, List.set_cons_succ, i64_w, i32_w]
        rfl
      refine two_ (i := 6) (j := 14) (Ni := some 18) (Nj := some 5) #[true, true, true, true, true, true, true, false, false, false, true, true, true, false, false, false] #[true, true, true, true, true, true, false, false, false, false, true, true, true, false, true, false] rfl rfl rfl rfl (by kernel_rfl) (by decide) (by decide) (fun K hK => ?_) (fun K hK => ?_)
      · refine slice_step (n := 2) (by rfl) (N := 18) rfl (cs := #[.int .i64 a21, .int .i64 a22]) (t := 3) ?hr ?_
        case hr => first | (go_simp; done) | (go_simp; rfl)
        intro g208 hg w209 hbox hb
        replace HS : Aside0 (Sep (fps []) w [b1 g25 a21 a22 a23 a24, b2 g28 0 0 0 0 0 0 0 0, b3 g208 a21 a22] w209) := ⟨HS.out.box hg hbox hb⟩
        clear hg hbox hb
        refine hK.out _ _ (⟨blk_cellv (HS.out.at0) 2 rfl, blk_cellv (HS.out.at0) 0 rfl, blk_cellv (HS.out.at0) 1 rfl⟩) (fun hHeld => ?_)
        clear hK K
        refine norm_ (a' := ?_) ?_ ?_
        rotate_left
        · show Act.put _ (some 18) _ = _
          simp only [Act.put, List.setIfInBounds_toArray, List.set_cons_zero, List.set_cons_succ, i64_w, i32_w]
          rfl
        refine two_ (i := 7) (j := 14) (Ni := some 19) (Nj := some 5) #[true, true, true, true, true, true, true, true, false, false, true, true, true, false, false, false] #[true, true, true, true, true, true, true, false, false, false, true, true, true, false, true, false] rfl rfl rfl rfl (by kernel_rfl) (by decide) (by decide) (fun K hK => ?_) (fun K hK => ?_)
        · refine goes_ Tryd.func123 (by kernel_rfl) rfl #[.slice (some ⟨g208, 0, none⟩) 2 2] (by rfl) rfl rfl (by (try simp only [List.map_toArray, List.map_cons, List.map_nil]); first | done | rfl) ?_
          refine (ratio_Mul.calls _ [a21, a22] (some ⟨g208, 0, none⟩) 2 t156 _ ⟨Rd.lit (l := []) (xs := [a21, a22]) HS.out 2 rfl (by simp)⟩ ⟨HGl0.out.pass (l := []) HS.out⟩ ⟨Sep.start _⟩ HA157).mono ?_
          rintro e_ w212 ⟨rfl, hS⟩
          replace HS : Aside0 (Sep (fps []) w [b1 g25 a21 a22 a23 a24, b2 g28 0 0 0 0 0 0 0 0, b3 g208 a21 a22] w212) := ⟨HS.out.call hS⟩
          clear hS
          refine ⟨_, rfl, ?_⟩
          refine hK.out _ _ (⟨blk_cellv (HS.out.at0) 2 rfl, blk_cellv (HS.out.at0) 0 rfl, blk_cellv (HS.out.at0) 1 rfl⟩) (fun hHeld => ?_)
          clear hK K
          refine norm_ (a' := ?_) ?_ ?_
          rotate_left
          · show Act.put _ (some 19) _ = _
            simp only [Act.put, List.setIfInBounds_toArray, List.set_cons_zero, List.set_cons_succ, i64_w, i32_w]
            rfl
          refine two_ (i := 8) (j := 14) (Ni := some 20) (Nj := some 5) #[true, true, true, true, true, true, true, true, true, false, true, true, true, false, false, false] #[true, true, true, true, true, true, true, true, false, false, true, true, true, false, true, false] rfl rfl rfl rfl (by kernel_rfl) (by decide) (by decide) (fun K hK => ?_) (fun K hK => ?_)
          · refine slice_step (n := 3) (by rfl) (N := 20) rfl (cs := #[.int .i64 24, .int .i64 a23, .int .i64 t156]) (t := 3) ?hr ?_
            case hr => first | (go_simp; done) | (go_simp; rfl)
            intro g213 hg w214 hbox hb
            replace HS : Aside0 (Sep (fps []) w [b1 g25 a21 a22 a23 a24, b2 g28 0 0 0 0 0 0 0 0, b3 g208 a21 a22, b4 g213 24 a23 t156] w214) := ⟨HS.out.box hg hbox hb⟩
            clear hg hbox hb
            refine hK.out _ _ (⟨blk_cellv (HS.out.at0) 2 rfl, blk_cellv (HS.out.at0) 0 rfl, blk_cellv (HS.out.at0) 1 rfl⟩) (fun hHeld => ?_)
            clear hK K
            refine norm_ (a' := ?_) ?_ ?_
            rotate_left
            · show Act.put _ (some 20) _ = _
              simp only [Act.put, List.setIfInBounds_toArray, List.set_cons_zero, List.set_cons_succ, i64_w, i32_w]
              rfl
            refine two_ (i := 9) (j := 14) (Ni := some 21) (Nj := some 5) #[true, true, true, true, true, true, true, true, true, true, true, true, true, false, false, false] #[true, true, true, true, true, true, true, true, true, false, true, true, true, false, true, false] rfl rfl rfl rfl (by kernel_rfl) (by decide) (by decide) (fun K hK => ?_) (fun K hK => ?_)
            · refine goes_ Tryd.func122 (by kernel_rfl) rfl #[.slice (some ⟨g213, 0, none⟩) 3 3] (by rfl) rfl rfl (by (try simp only [List.map_toArray, List.map_cons, List.map_nil]); first | done | rfl) ?_
              refine (ratio_Add.calls _ [24, a23, t156] (some ⟨g213, 0, none⟩) 3 t182 _ ⟨Rd.lit (l := []) (xs := [24, a23, t156]) HS.out 3 rfl (by simp)⟩ ⟨HGl0.out.pass (l := []) HS.out⟩ ⟨Sep.start _⟩ HA183).mono ?_
              rintro e_ w217 ⟨rfl, hS⟩
              replace HS : Aside0 (Sep (fps []) w [b1 g25 a21 a22 a23 a24, b2 g28 0 0 0 0 0 0 0 0, b3 g208 a21 a22, b4 g213 24 a23 t156] w217) := ⟨HS.out.call hS⟩
              clear hS
              refine ⟨_, rfl, ?_⟩
              refine hK.out _ _ (⟨blk_cellv (HS.out.at0) 2 rfl, blk_cellv (HS.out.at0) 0 rfl, blk_cellv (HS.out.at0) 1 rfl⟩) (fun hHeld => ?_)
              clear hK K
              refine norm_ (a' := ?_) ?_ ?_
              rotate_left
              · show Act.put _ (some 21) _ = _
                simp only [Act.put, List.setIfInBounds_toArray, List.set_cons_zero, List.set_cons_succ, i64_w, i32_w]
                rfl
              refine pure_ (i := 13) (N := some 25) (v := ?_) (a' := ?_) #[true, true, true, true, true, true, true, true, true, true, true, true, true, true, false, false] rfl rfl (by kernel_rfl) (fun _ _ _ h => h) (Or.inl ⟨by rfl, ?_⟩) ?_ ?_
              rotate_left
              · intro w'
                go_simp
                with_reducible rfl
              rotate_left
              · simp only [Act.put, List.setIfInBounds_toArray, List.set_cons_zero, List.set_cons_succ, i64_w, i32_w]
                rfl
              refine one_ (i := 14) (N := some 5) #[true, true, true, true, true, true, true, true, true, true, true, true, true, true, true, false] rfl rfl (by kernel_rfl) (by decide) (fun K hK => ?_)
              refine box_step (by rfl) (N := 5) rfl (cs := #[.int .i64 0, .int .i64 0, .int .i64 0, .int .i64 0, .int .i64 0, .int .i64 0, .int .i64 0, .int .i64 0]) (t := 97) ?hr ?_
              case hr => first | (go_simp; done) | (go_simp; rfl)
              intro g218 hg w219 hbox hb
              replace HS : Aside0 (Sep (fps []) w [b1 g25 a21 a22 a23 a24, b2 g28 0 0 0 0 0 0 0 0, b3 g208 a21 a22, b4 g213 24 a23 t156, b2 g218 0 0 0 0 0 0 0 0] w219) := ⟨HS.out.box hg hbox hb⟩
              clear hg hbox hb
              refine hK.out _ _ (⟨blk_cellv (HS.out.at0) 2 rfl, blk_cellv (HS.out.at0) 0 rfl, blk_cellv (HS.out.at0) 1 rfl⟩) (fun hHeld => ?_)
              clear hK K
              refine norm_ (a' := ?_) ?_ ?_
              rotate_left
              · show Act.put _ (some 5) _ = _
                simp only [Act.put, List.setIfInBounds_toArray, List.set_cons_zero, List.set_cons_succ, i64_w, i32_w]
                rfl
              refine one_ (i := 15) (N := none) #[true, true, true, true, true, true, true, true, true, true, true, true, true, true, true, true] rfl rfl (by kernel_rfl) (by decide) (fun K hK => ?_)
              have hc222 := blk_cellv (v := .int .i64 0) (HS.out.at4) 0 rfl
              have hz223 := blk_fz (HS.out.at4) 0
              have hc224 := blk_cellv (v := .int .i64 0) (HS.out.at4) 1 rfl
              have hz225 := blk_fz (HS.out.at4) 1
              have hc226 := blk_cellv (v := .int .i64 0) (HS.out.at4) 2 rfl
              have hz227 := blk_fz (HS.out.at4) 2
              have hc228 := blk_cellv (v := .int .i64 0) (HS.out.at4) 3 rfl
              have hz229 := blk_fz (HS.out.at4) 3
              have hc230 := blk_cellv (v := .int .i64 0) (HS.out.at4) 4 rfl
              have hz231 := blk_fz (HS.out.at4) 4
              have hc232 := blk_cellv (v := .int .i64 0) (HS.out.at4) 5 rfl
              have hz233 := blk_fz (HS.out.at4) 5
              have hc234 := blk_cellv (v := .int .i64 0) (HS.out.at4) 6 rfl
              have hz235 := blk_fz (HS.out.at4) 6
              have hc236 := blk_cellv (v := .int .i64 0) (HS.out.at4) 7 rfl
              have hz237 := blk_fz (HS.out.at4) 7
              refine store_step (w1 := (World.setCell (World.setCell (World.setCell (World.setCell (World.setCell (World.setCell (World.setCell (World.setCell w219 ⟨g218, 0, none⟩ (.int .i64 t182)) ⟨g218, 1, none⟩ (.int .i64 (wrap64 (a22 - 8)))) ⟨g218, 2, none⟩ (.int .i64 0)) ⟨g218, 3, none⟩ (.int .i64 0)) ⟨g218, 4, none⟩ (.int .i64 0)) ⟨g218, 5, none⟩ (.int .i64 0)) ⟨g218, 6, none⟩ (.int .i64 0)) ⟨g218, 7, none⟩ (.int .i64 0))) (by rfl) rfl ?hr ?_
              case hr => first | (go_simp; done) | (go_simp; rfl)
              clear hc222 hz223 hc224 hz225 hc226 hz227 hc228 hz229 hc230 hz231 hc232 hz233 hc234 hz235 hc236 hz237
              intro w221 hst
              replace HS : Aside0 (Sep (fps []) w [b1 g25 a21 a22 a23 a24, b2 g28 0 0 0 0 0 0 0 0, b3 g208 a21 a22, b4 g213 24 a23 t156, b2 g218 t182 (wrap64 (a22 - 8)) 0 0 0 0 0 0] w221) := ⟨by rw [hst]; exact HS.out.setAll (l1 := [b1 g25 a21 a22 a23 a24, b2 g28 0 0 0 0 0 0 0 0, b3 g208 a21 a22, b4 g213 24 a23 t156]) (l2 := []) [.int .i64 t182, .int .i64 (wrap64 (a22 - 8)), .int .i64 0, .int .i64 0, .int .i64 0, .int .i64 0, .int .i64 0, .int .i64 0] rfl⟩
              clear hst
              refine hK.out _ _ (⟨blk_cellv (HS.out.at0) 2 rfl, blk_cellv (HS.out.at0) 0 rfl, blk_cellv (HS.out.at0) 1 rfl⟩) (fun hHeld => ?_)
              clear hK K
              refine done_ (by kernel_rfl) ?_
              go_wp2_with fail
              go_meet
              case rel => exact ⟨g208, g213, g218, (by first | rfl | (simp [IntKind.wrap_u32]; done)), ⟨(((((HS.out).front 4 (by simp)).front 4 (by simp)).front 4 (by simp)).front 4 (by simp)).front 4 (by simp)⟩⟩
            · refine box_step (by rfl) (N := 5) rfl (cs := #[.int .i64 0, .int .i64 0, .int .i64 0, .int .i64 0, .int .i64 0, .int .i64 0, .int .i64 0, .int .i64 0]) (t := 97) ?hr ?_
              case hr => first | (go_simp; done) | (go_simp; rfl)
              intro g238 hg w239 hbox hb
              replace HS : Aside0 (Sep (fps []) w [b1 g25 a21 a22 a23 a24, b2 g28 0 0 0 0 0 0 0 0, b3 g208 a21 a22, b4 g213 24 a23 t156, b2 g238 0 0 0 0 0 0 0 0] w239) := ⟨HS.out.box hg hbox hb⟩
              clear hg hbox hb
              refine hK.out _ _ (⟨blk_cellv (HS.out.at0) 2 rfl, blk_cellv (HS.out.at0) 0 rfl, blk_cellv (HS.out.at0) 1 rfl⟩) (fun hHeld => ?_)
              clear hK K
              refine norm_ (a' := ?_) ?_ ?_
              rotate_left
              · show Act.put _ (some 5) _ = _
                simp only [Act.put, List.setIfInBounds_toArray, List.set_cons_zero, List.set_cons_succ, i64_w, i32_w]
                rfl
              refine one_ (i := 9) (N := some 21) #[true, true, true, true, true, true, true, true, true, true, true, true, true, false, true, false] rfl rfl (by kernel_rfl) (by decide) (fun K hK => ?_)
              refine goes_ Tryd.func122 (by kernel_rfl) rfl #[.slice (some ⟨g213, 0, none⟩) 3 3] (by rfl) rfl rfl (by (try simp only [List.map_toArray, List.map_cons, List.map_nil]); first | done | rfl) ?_
              refine (ratio_Add.calls _ [24, a23, t156] (some ⟨g213, 0, none⟩) 3 t182 _ ⟨Rd.lit (l := []) (xs := [24, a23, t156]) HS.out 3 rfl (by simp)⟩ ⟨HGl0.out.pass (l := []) HS.out⟩ ⟨Sep.start _⟩ HA183).mono ?_
              rintro e_ w242 ⟨rfl, hS⟩
              replace HS : Aside0 (Sep (fps []) w [b1 g25 a21 a22 a23 a24, b2 g28 0 0 0 0 0 0 0 0, b3 g208 a21 a22, b4 g213 24 a23 t156, b2 g238 0 0 0 0 0 0 0 0] w242) := ⟨HS.out.call hS⟩
              clear hS
              refine ⟨_, rfl, ?_⟩
              refine hK.out _ _ (⟨blk_cellv (HS.out.at0) 2 rfl, blk_cellv (HS.out.at0) 0 rfl, blk_cellv (HS.out.at0) 1 rfl⟩) (fun hHeld => ?_)
              clear hK K
              refine norm_ (a' := ?_) ?_ ?_
              rotate_left
              · show Act.put _ (some 21) _ = _
                simp only [Act.put, List.setIfInBounds_toArray, List.set_cons_zero, List.set_cons_succ, i64_w, i32_w]
                rfl
              refine pure_ (i := 13) (N := some 25) (v := ?_) (a' := ?_) #[true, true, true, true, true, true, true, true, true, true, true, true, true, true, true, false] rfl rfl (by kernel_rfl) (fun _ _ _ h => h) (Or.inl ⟨by rfl, ?_⟩) ?_ ?_
              rotate_left
              · intro w'
                go_simp
                with_reducible rfl
              rotate_left
              · simp only [Act.put, List.setIfInBounds_toArray, List.set_cons_zero, List.set_cons_succ, i64_w, i32_w]
                rfl
              refine one_ (i := 15) (N := none) #[true, true, true, true, true, true, true, true, true, true, true, true, true, true, true, true] rfl rfl (by kernel_rfl) (by decide) (fun K hK => ?_)
              have hc244 := blk_cellv (v := .int .i64 0) (HS.out.at4) 0 rfl
              have hz245 := blk_fz (HS.out.at4) 0
              have hc246 := blk_cellv (v := .int .i64 0) (HS.out.at4) 1 rfl
              have hz247 := blk_fz (HS.out.at4) 1
              have hc248 := blk_cellv (v := .int .i64 0) (HS.out.at4) 2 rfl
              have hz249 := blk_fz (HS.out.at4) 2
              have hc250 := blk_cellv (v := .int .i64 0) (HS.out.at4) 3 rfl
              have hz251 := blk_fz (HS.out.at4) 3
              have hc252 := blk_cellv (v := .int .i64 0) (HS.out.at4) 4 rfl
              have hz253 := blk_fz (HS.out.at4) 4
              have hc254 := blk_cellv (v := .int .i64 0) (HS.out.at4) 5 rfl
              have hz255 := blk_fz (HS.out.at4) 5
              have hc256 := blk_cellv (v := .int .i64 0) (HS.out.at4) 6 rfl
              have hz257 := blk_fz (HS.out.at4) 6
              have hc258 := blk_cellv (v := .int .i64 0) (HS.out.at4) 7 rfl
              have hz259 := blk_fz (HS.out.at4) 7
              refine store_step (w1 := (World.setCell (World.setCell (World.setCell (World.setCell (World.setCell (World.setCell (World.setCell (World.setCell w242 ⟨g238, 0, none⟩ (.int .i64 t182)) ⟨g238, 1, none⟩ (.int .i64 (wrap64 (a22 - 8)))) ⟨g238, 2, none⟩ (.int .i64 0)) ⟨g238, 3, none⟩ (.int .i64 0)) ⟨g238, 4, none⟩ (.int .i64 0)) ⟨g238, 5, none⟩ (.int .i64 0)) ⟨g238, 6, none⟩ (.int .i64 0)) ⟨g238, 7, none⟩ (.int .i64 0))) (by rfl) rfl ?hr ?_
              case hr => first | (go_simp; done) | (go_simp; rfl)
              clear hc244 hz245 hc246 hz247 hc248 hz249 hc250 hz251 hc252 hz253 hc254 hz255 hc256 hz257 hc258 hz259
              intro w243 hst
              replace HS : Aside0 (Sep (fps []) w [b1 g25 a21 a22 a23 a24, b2 g28 0 0 0 0 0 0 0 0, b3 g208 a21 a22, b4 g213 24 a23 t156, b2 g238 t182 (wrap64 (a22 - 8)) 0 0 0 0 0 0] w243) := ⟨by rw [hst]; exact HS.out.setAll (l1 := [b1 g25 a21 a22 a23 a24, b2 g28 0 0 0 0 0 0 0 0, b3 g208 a21 a22, b4 g213 24 a23 t156]) (l2 := []) [.int .i64 t182, .int .i64 (wrap64 (a22 - 8)), .int .i64 0, .int .i64 0, .int .i64 0, .int .i64 0, .int .i64 0, .int .i64 0] rfl⟩
              clear hst
              refine hK.out _ _ (⟨blk_cellv (HS.out.at0) 2 rfl, blk_cellv (HS.out.at0) 0 rfl, blk_cellv (HS.out.at0) 1 rfl⟩) (fun hHeld => ?_)
              clear hK K
              refine done_ (by kernel_rfl) ?_
              go_wp2_with fail
              go_meet
              case rel => exact ⟨g208, g213, g238, (by first | rfl | (simp [IntKind.wrap_u32]; done)), ⟨(((((HS.out).front 4 (by simp)).front 4 (by simp)).front 4 (by simp)).front 4 (by simp)).front 4 (by simp)⟩⟩
          · refine box_step (by rfl) (N := 5) rfl (cs := #[.int .i64 0, .int .i64 0, .int .i64 0, .int .i64 0, .int .i64 0, .int .i64 0, .int .i64 0, .int .i64 0]) (t := 97) ?hr ?_
            case hr => first | (go_simp; done) | (go_simp; rfl)
            intro g260 hg w261 hbox hb
            replace HS : Aside0 (Sep (fps []) w [b1 g25 a21 a22 a23 a24, b2 g28 0 0 0 0 0 0 0 0, b3 g208 a21 a22, b2 g260 0 0 0 0 0 0 0 0] w261) := ⟨HS.out.box hg hbox hb⟩
            clear hg hbox hb
            refine hK.out _ _ (⟨blk_cellv (HS.out.at0) 2 rfl, blk_cellv (HS.out.at0) 0 rfl, blk_cellv (HS.out.at0) 1 rfl⟩) (fun hHeld => ?_)
            clear hK K
            refine norm_ (a' := ?_) ?_ ?_
            rotate_left
            · show Act.put _ (some 5) _ = _
              simp only [Act.put, List.setIfInBounds_toArray, List.set_cons_zero, List.set_cons_succ, i64_w, i32_w]
              rfl
            refine one_ (i := 8) (N := some 20) #[true, true, true, true, true, true, true, true, true, false, true, true, true, false, true, false] rfl rfl (by kernel_rfl) (by decide) (fun K hK => ?_)
            refine slice_step (n := 3) (by rfl) (N := 20) rfl (cs := #[.int .i64 24, .int .i64 a23, .int .i64 t156]) (t := 3) ?hr ?_
            case hr => first | (go_simp; done) | (go_simp; rfl)
            intro g263 hg w264 hbox hb
            replace HS : Aside0 (Sep (fps []) w [b1 g25 a21 a22 a23 a24, b2 g28 0 0 0 0 0 0 0 0, b3 g208 a21 a22, b2 g260 0 0 0 0 0 0 0 0, b4 g263 24 a23 t156] w264) := ⟨HS.out.box hg hbox hb⟩
            clear hg hbox hb
            refine hK.out _ _ (⟨blk_cellv (HS.out.at0) 2 rfl, blk_cellv (HS.out.at0) 0 rfl, blk_cellv (HS.out.at0) 1 rfl⟩) (fun hHeld => ?_)
            clear hK K
            refine norm_ (a' := ?_) ?_ ?_
            rotate_left
            · show Act.put _ (some 20) _ = _
              simp only [Act.put, List.setIfInBounds_toArray, List.set_cons_zero, List.set_cons_succ, i64_w, i32_w]
              rfl
            refine one_ (i := 9) (N := some 21) #[true, true, true, true, true, true, true, true, true, true, true, true, true, false, true, false] rfl rfl (by kernel_rfl) (by decide) (fun K hK => ?_)
            refine goes_ Tryd.func122 (by kernel_rfl) rfl #[.slice (some ⟨g263, 0, none⟩) 3 3] (by rfl) rfl rfl (by (try simp only [List.map_toArray, List.map_cons, List.map_nil]); first | done | rfl) ?_
            refine (ratio_Add.calls _ [24, a23, t156] (some ⟨g263, 0, none⟩) 3 t182 _ ⟨Rd.lit (l := []) (xs := [24, a23, t156]) HS.out 4 rfl (by simp)⟩ ⟨HGl0.out.pass (l := []) HS.out⟩ ⟨Sep.start _⟩ HA183).mono ?_
            rintro e_ w267 ⟨rfl, hS⟩
            replace HS : Aside0 (Sep (fps []) w [b1 g25 a21 a22 a23 a24, b2 g28 0 0 0 0 0 0 0 0, b3 g208 a21 a22, b2 g260 0 0 0 0 0 0 0 0, b4 g263 24 a23 t156] w267) := ⟨HS.out.call hS⟩
            clear hS
            refine ⟨_, rfl, ?_⟩
            refine hK.out _ _ (⟨blk_cellv (HS.out.at0) 2 rfl, blk_cellv (HS.out.at0) 0 rfl, blk_cellv (HS.out.at0) 1 rfl⟩) (fun hHeld => ?_)
            clear hK K
            refine norm_ (a' := ?_) ?_ ?_
            rotate_left
            · show Act.put _ (some 21) _ = _
              simp only [Act.put, List.setIfInBounds_toArray, List.set_cons_zero, List.set_cons_succ, i64_w, i32_w]
              rfl
            refine pure_ (i := 13) (N := some 25) (v := ?_) (a' := ?_) #[true, true, true, true, true, true, true, true, true, true, true, true, true, true, true, false] rfl rfl (by kernel_rfl) (fun _ _ _ h => h) (Or.inl ⟨by rfl, ?_⟩) ?_ ?_
            rotate_left
            · intro w'
              go_simp
              with_reducible rfl
            rotate_left
            · simp only [Act.put, List.setIfInBounds_toArray, List.set_cons_zero, List.set_cons_succ, i64_w, i32_w]
              rfl
            refine one_ (i := 15) (N := none) #[true, true, true, true, true, true, true, true, true, true, true, true, true, true, true, true] rfl rfl (by kernel_rfl) (by decide) (fun K hK => ?_)
            have hc269 := blk_cellv (v := .int .i64 0) (HS.out.at3) 0 rfl
            have hz270 := blk_fz (HS.out.at3) 0
            have hc271 := blk_cellv (v := .int .i64 0) (HS.out.at3) 1 rfl
            have hz272 := blk_fz (HS.out.at3) 1
            have hc273 := blk_cellv (v := .int .i64 0) (HS.out.at3) 2 rfl
            have hz274 := blk_fz (HS.out.at3) 2
            have hc275 := blk_cellv (v := .int .i64 0) (HS.out.at3) 3 rfl
            have hz276 := blk_fz (HS.out.at3) 3
            have hc277 := blk_cellv (v := .int .i64 0) (HS.out.at3) 4 rfl
            have hz278 := blk_fz (HS.out.at3) 4
            have hc279 := blk_cellv (v := .int .i64 0) (HS.out.at3) 5 rfl
            have hz280 := blk_fz (HS.out.at3) 5
            have hc281 := blk_cellv (v := .int .i64 0) (HS.out.at3) 6 rfl
            have hz282 := blk_fz (HS.out.at3) 6
            have hc283 := blk_cellv (v := .int .i64 0) (HS.out.at3) 7 rfl
            have hz284 := blk_fz (HS.out.at3) 7
            refine store_step (w1 := (World.setCell (World.setCell (World.setCell (World.setCell (World.setCell (World.setCell (World.setCell (World.setCell w267 ⟨g260, 0, none⟩ (.int .i64 t182)) ⟨g260, 1, none⟩ (.int .i64 (wrap64 (a22 - 8)))) ⟨g260, 2, none⟩ (.int .i64 0)) ⟨g260, 3, none⟩ (.int .i64 0)) ⟨g260, 4, none⟩ (.int .i64 0)) ⟨g260, 5, none⟩ (.int .i64 0)) ⟨g260, 6, none⟩ (.int .i64 0)) ⟨g260, 7, none⟩ (.int .i64 0))) (by rfl) rfl ?hr ?_
            case hr => first | (go_simp; done) | (go_simp; rfl)
            clear hc269 hz270 hc271 hz272 hc273 hz274 hc275 hz276 hc277 hz278 hc279 hz280 hc281 hz282 hc283 hz284
            intro w268 hst
            replace HS : Aside0 (Sep (fps []) w [b1 g25 a21 a22 a23 a24, b2 g28 0 0 0 0 0 0 0 0, b3 g208 a21 a22, b2 g260 t182 (wrap64 (a22 - 8)) 0 0 0 0 0 0, b4 g263 24 a23 t156] w268) := ⟨by rw [hst]; exact HS.out.setAll (l1 := [b1 g25 a21 a22 a23 a24, b2 g28 0 0 0 0 0 0 0 0, b3 g208 a21 a22]) (l2 := [b4 g263 24 a23 t156]) [.int .i64 t182, .int .i64 (wrap64 (a22 - 8)), .int .i64 0, .int .i64 0, .int .i64 0, .int .i64 0, .int .i64 0, .int .i64 0] rfl⟩
            clear hst
            refine hK.out _ _ (⟨blk_cellv (HS.out.at0) 2 rfl, blk_cellv (HS.out.at0) 0 rfl, blk_cellv (HS.out.at0) 1 rfl⟩) (fun hHeld => ?_)
            clear hK K
            refine done_ (by kernel_rfl) ?_
            go_wp2_with fail
            go_meet
            case rel => exact ⟨g208, g263, g260, (by first | rfl | (simp [IntKind.wrap_u32]; done)), ⟨(((((HS.out).front 3 (by simp)).front 4 (by simp)).front 4 (by simp)).front 4 (by simp)).front 4 (by simp)⟩⟩
        · refine box_step (by rfl) (N := 5) rfl (cs := #[.int .i64 0, .int .i64 0, .int .i64 0, .int .i64 0, .int .i64 0, .int .i64 0, .int .i64 0, .int .i64 0]) (t := 97) ?hr ?_
          case hr => first | (go_simp; done) | (go_simp; rfl)
          intro g285 hg w286 hbox hb
          replace HS : Aside0 (Sep (fps []) w [b1 g25 a21 a22 a23 a24, b2 g28 0 0 0 0 0 0 0 0, b3 g208 a21 a22, b2 g285 0 0 0 0 0 0 0 0] w286) := ⟨HS.out.box hg hbox hb⟩
          clear hg hbox hb
          refine hK.out _ _ (⟨blk_cellv (HS.out.at0) 2 rfl, blk_cellv (HS.out.at0) 0 rfl, blk_cellv (HS.out.at0) 1 rfl⟩) (fun hHeld => ?_)
          clear hK K
          refine norm_ (a' := ?_) ?_ ?_
          rotate_left
          · show Act.put _ (some 5) _ = _
            simp only [Act.put, List.setIfInBounds_toArray, List.set_cons_zero, List.set_cons_succ, i64_w, i32_w]
            rfl
          refine one_ (i := 7) (N := some 19) #[true, true, true, true, true, true, true, true, false, false, true, true, true, false, true, false] rfl rfl (by kernel_rfl) (by decide) (fun K hK => ?_)
          refine goes_ Tryd.func123 (by kernel_rfl) rfl #[.slice (some ⟨g208, 0, none⟩) 2 2] (by rfl) rfl rfl (by (try simp only [List.map_toArray, List.map_cons, List.map_nil]); first | done | rfl) ?_
          refine (ratio_Mul.calls _ [a21, a22] (some ⟨g208, 0, none⟩) 2 t156 _ ⟨Rd.lit (l := []) (xs := [a21, a22]) HS.out 2 rfl (by simp)⟩ ⟨HGl0.out.pass (l := []) HS.out⟩ ⟨Sep.start _⟩ HA157).mono ?_
          rintro e_ w289 ⟨rfl, hS⟩
          replace HS : Aside0 (Sep (fps []) w [b1 g25 a21 a22 a23 a24, b2 g28 0 0 0 0 0 0 0 0, b3 g208 a21 a22, b2 g285 0 0 0 0 0 0 0 0] w289) := ⟨HS.out.call hS⟩
          clear hS
          refine ⟨_, rfl, ?_⟩
          refine hK.out _ _ (⟨blk_cellv (HS.out.at0) 2 rfl, blk_cellv (HS.out.at0) 0 rfl, blk_cellv (HS.out.at0) 1 rfl⟩) (fun hHeld => ?_)
          clear hK K
          refine norm_ (a' := ?_) ?_ ?_
          rotate_left
          · show Act.put _ (some 19) _ = _
            simp only [Act.put, List.setIfInBounds_toArray, List.set_cons_zero, List.set_cons_succ, i64_w, i32_w]
            rfl
          refine one_ (i := 8) (N := some 20) #[true, true, true, true, true, true, true, true, true, false, true, true, true, false, true, false] rfl rfl (by kernel_rfl) (by decide) (fun K hK => ?_)
          refine slice_step (n := 3) (by rfl) (N := 20) rfl (cs := #[.int .i64 24, .int .i64 a23, .int .i64 t156]) (t := 3) ?hr ?_
          case hr => first | (go_simp; done) | (go_simp; rfl)
          intro g290 hg w291 hbox hb
          replace HS : Aside0 (Sep (fps []) w [b1 g25 a21 a22 a23 a24, b2 g28 0 0 0 0 0 0 0 0, b3 g208 a21 a22, b2 g285 0 0 0 0 0 0 0 0, b4 g290 24 a23 t156] w291) := ⟨HS.out.box hg hbox hb⟩
          clear hg hbox hb
          refine hK.out _ _ (⟨blk_cellv (HS.out.at0) 2 rfl, blk_cellv (HS.out.at0) 0 rfl, blk_cellv (HS.out.at0) 1 rfl⟩) (fun hHeld => ?_)
          clear hK K
          refine norm_ (a' := ?_) ?_ ?_
          rotate_left
          · show Act.put _ (some 20) _ = _
            simp only [Act.put, List.setIfInBounds_toArray, List.set_cons_zero, List.set_cons_succ, i64_w, i32_w]
            rfl
          refine one_ (i := 9) (N := some 21) #[true, true, true, true, true, true, true, true, true, true, true, true, true, false, true, false] rfl rfl (by kernel_rfl) (by decide) (fun K hK => ?_)
          refine goes_ Tryd.func122 (by kernel_rfl) rfl #[.slice (some ⟨g290, 0, none⟩) 3 3] (by rfl) rfl rfl (by (try simp only [List.map_toArray, List.map_cons, List.map_nil]); first | done | rfl) ?_
          refine (ratio_Add.calls _ [24, a23, t156] (some ⟨g290, 0, none⟩) 3 t182 _ ⟨Rd.lit (l := []) (xs := [24, a23, t156]) HS.out 4 rfl (by simp)⟩ ⟨HGl0.out.pass (l := []) HS.out⟩ ⟨Sep.start _⟩ HA183).mono ?_
          rintro e_ w294 ⟨rfl, hS⟩
          replace HS : Aside0 (Sep (fps []) w [b1 g25 a21 a22 a23 a24, b2 g28 0 0 0 0 0 0 0 0, b3 g208 a21 a22, b2 g285 0 0 0 0 0 0 0 0, b4 g290 24 a23 t156] w294) := ⟨HS.out.call hS⟩
          clear hS
          refine ⟨_, rfl, ?_⟩
          refine hK.out _ _ (⟨blk_cellv (HS.out.at0) 2 rfl, blk_cellv (HS.out.at0) 0 rfl, blk_cellv (HS.out.at0) 1 rfl⟩) (fun hHeld => ?_)
          clear hK K
          refine norm_ (a' := ?_) ?_ ?_
          rotate_left
          · show Act.put _ (some 21) _ = _
            simp only [Act.put, List.setIfInBounds_toArray, List.set_cons_zero, List.set_cons_succ, i64_w, i32_w]
            rfl
          refine pure_ (i := 13) (N := some 25) (v := ?_) (a' := ?_) #[true, true, true, true, true, true, true, true, true, true, true, true, true, true, true, false] rfl rfl (by kernel_rfl) (fun _ _ _ h => h) (Or.inl ⟨by rfl, ?_⟩) ?_ ?_
          rotate_left
          · intro w'
            go_simp
            with_reducible rfl
          rotate_left
          · simp only [Act.put, List.setIfInBounds_toArray, List.set_cons_zero, List.set_cons_succ, i64_w, i32_w]
            rfl
          refine one_ (i := 15) (N := none) #[true, true, true, true, true, true, true, true, true, true, true, true, true, true, true, true] rfl rfl (by kernel_rfl) (by decide) (fun K hK => ?_)
          have hc296 := blk_cellv (v := .int .i64 0) (HS.out.at3) 0 rfl
          have hz297 := blk_fz (HS.out.at3) 0
          have hc298 := blk_cellv (v := .int .i64 0) (HS.out.at3) 1 rfl
          have hz299 := blk_fz (HS.out.at3) 1
          have hc300 := blk_cellv (v := .int .i64 0) (HS.out.at3) 2 rfl
          have hz301 := blk_fz (HS.out.at3) 2
          have hc302 := blk_cellv (v := .int .i64 0) (HS.out.at3) 3 rfl
          have hz303 := blk_fz (HS.out.at3) 3
          have hc304 := blk_cellv (v := .int .i64 0) (HS.out.at3) 4 rfl
          have hz305 := blk_fz (HS.out.at3) 4
          have hc306 := blk_cellv (v := .int .i64 0) (HS.out.at3) 5 rfl
          have hz307 := blk_fz (HS.out.at3) 5
          have hc308 := blk_cellv (v := .int .i64 0) (HS.out.at3) 6 rfl
          have hz309 := blk_fz (HS.out.at3) 6
          have hc310 := blk_cellv (v := .int .i64 0) (HS.out.at3) 7 rfl
          have hz311 := blk_fz (HS.out.at3) 7
          refine store_step (w1 := (World.setCell (World.setCell (World.setCell (World.setCell (World.setCell (World.setCell (World.setCell (World.setCell w294 ⟨g285, 0, none⟩ (.int .i64 t182)) ⟨g285, 1, none⟩ (.int .i64 (wrap64 (a22 - 8)))) ⟨g285, 2, none⟩ (.int .i64 0)) ⟨g285, 3, none⟩ (.int .i64 0)) ⟨g285, 4, none⟩ (.int .i64 0)) ⟨g285, 5, none⟩ (.int .i64 0)) ⟨g285, 6, none⟩ (.int .i64 0)) ⟨g285, 7, none⟩ (.int .i64 0))) (by rfl) rfl ?hr ?_
          case hr => first | (go_simp; done) | (go_simp; rfl)
          clear hc296 hz297 hc298 hz299 hc300 hz301 hc302 hz303 hc304 hz305 hc306 hz307 hc308 hz309 hc310 hz311
          intro w295 hst
          replace HS : Aside0 (Sep (fps []) w [b1 g25 a21 a22 a23 a24, b2 g28 0 0 0 0 0 0 0 0, b3 g208 a21 a22, b2 g285 t182 (wrap64 (a22 - 8)) 0 0 0 0 0 0, b4 g290 24 a23 t156] w295) := ⟨by rw [hst]; exact HS.out.setAll (l1 := [b1 g25 a21 a22 a23 a24, b2 g28 0 0 0 0 0 0 0 0, b3 g208 a21 a22]) (l2 := [b4 g290 24 a23 t156]) [.int .i64 t182, .int .i64 (wrap64 (a22 - 8)), .int .i64 0, .int .i64 0, .int .i64 0, .int .i64 0, .int .i64 0, .int .i64 0] rfl⟩
          clear hst
          refine hK.out _ _ (⟨blk_cellv (HS.out.at0) 2 rfl, blk_cellv (HS.out.at0) 0 rfl, blk_cellv (HS.out.at0) 1 rfl⟩) (fun hHeld => ?_)
          clear hK K
          refine done_ (by kernel_rfl) ?_
          go_wp2_with fail
          go_meet
          case rel => exact ⟨g208, g290, g285, (by first | rfl | (simp [IntKind.wrap_u32]; done)), ⟨(((((HS.out).front 3 (by simp)).front 4 (by simp)).front 4 (by simp)).front 4 (by simp)).front 4 (by simp)⟩⟩
      · refine box_step (by rfl) (N := 5) rfl (cs := #[.int .i64 0, .int .i64 0, .int .i64 0, .int .i64 0, .int .i64 0, .int .i64 0, .int .i64 0, .int .i64 0]) (t := 97) ?hr ?_
        case hr => first | (go_simp; done) | (go_simp; rfl)
        intro g312 hg w313 hbox hb
        replace HS : Aside0 (Sep (fps []) w [b1 g25 a21 a22 a23 a24, b2 g28 0 0 0 0 0 0 0 0, b2 g312 0 0 0 0 0 0 0 0] w313) := ⟨HS.out.box hg hbox hb⟩
        clear hg hbox hb
        refine hK.out _ _ (⟨blk_cellv (HS.out.at0) 2 rfl, blk_cellv (HS.out.at0) 0 rfl, blk_cellv (HS.out.at0) 1 rfl⟩) (fun hHeld => ?_)
        clear hK K
        refine norm_ (a' := ?_) ?_ ?_
        rotate_left
        · show Act.put _ (some 5) _ = _
          simp only [Act.put, List.setIfInBounds_toArray, List.set_cons_zero, List.set_cons_succ, i64_w, i32_w]
          rfl
        refine one_ (i := 6) (N := some 18) #[true, true, true, true, true, true, true, false, false, false, true, true, true, false, true, false] rfl rfl (by kernel_rfl) (by decide) (fun K hK => ?_)
        refine slice_step (n := 2) (by rfl) (N := 18) rfl (cs := #[.int .i64 a21, .int .i64 a22]) (t := 3) ?hr ?_
        case hr => first | (go_simp; done) | (go_simp; rfl)
        intro g315 hg w316 hbox hb
        replace HS : Aside0 (Sep (fps []) w [b1 g25 a21 a22 a23 a24, b2 g28 0 0 0 0 0 0 0 0, b2 g312 0 0 0 0 0 0 0 0, b3 g315 a21 a22] w316) := ⟨HS.out.box hg hbox hb⟩
        clear hg hbox hb
        refine hK.out _ _ (⟨blk_cellv (HS.out.at0) 2 rfl, blk_cellv (HS.out.at0) 0 rfl, blk_cellv (HS.out.at0) 1 rfl⟩) (fun hHeld => ?_)
        clear hK K
        refine norm_ (a' := ?_) ?_ ?_
        rotate_left
        · show Act.put _ (some 18) _ = _
          simp only [Act.put, List.setIfInBounds_toArray, List.set_cons_zero, List.set_cons_succ, i64_w, i32_w]
          rfl
        refine one_ (i := 7) (N := some 19) #[true, true, true, true, true, true, true, true, false, false, true, true, true, false, true, false] rfl rfl (by kernel_rfl) (by decide) (fun K hK => ?_)
        refine goes_ Tryd.func123 (by kernel_rfl) rfl #[.slice (some ⟨g315, 0, none⟩) 2 2] (by rfl) rfl rfl (by (try simp only [List.map_toArray, List.map_cons, List.map_nil]); first | done | rfl) ?_
        refine (ratio_Mul.calls _ [a21, a22] (some ⟨g315, 0, none⟩) 2 t156 _ ⟨Rd.lit (l := []) (xs := [a21, a22]) HS.out 3 rfl (by simp)⟩ ⟨HGl0.out.pass (l := []) HS.out⟩ ⟨Sep.start _⟩ HA157).mono ?_
        rintro e_ w319 ⟨rfl, hS⟩
        replace HS : Aside0 (Sep (fps []) w [b1 g25 a21 a22 a23 a24, b2 g28 0 0 0 0 0 0 0 0, b2 g312 0 0 0 0 0 0 0 0, b3 g315 a21 a22] w319) := ⟨HS.out.call hS⟩
        clear hS
        refine ⟨_, rfl, ?_⟩
        refine hK.out _ _ (⟨blk_cellv (HS.out.at0) 2 rfl, blk_cellv (HS.out.at0) 0 rfl, blk_cellv (HS.out.at0) 1 rfl⟩) (fun hHeld => ?_)
        clear hK K
        refine norm_ (a' := ?_) ?_ ?_
        rotate_left
        · show Act.put _ (some 19) _ = _
          simp only [Act.put, List.setIfInBounds_toArray, List.set_cons_zero, List.set_cons_succ, i64_w, i32_w]
          rfl
        refine one_ (i := 8) (N := some 20) #[true, true, true, true, true, true, true, true, true, false, true, true, true, false, true, false] rfl rfl (by kernel_rfl) (by decide) (fun K hK => ?_)
        refine slice_step (n := 3) (by rfl) (N := 20) rfl (cs := #[.int .i64 24, .int .i64 a23, .int .i64 t156]) (t := 3) ?hr ?_
        case hr => first | (go_simp; done) | (go_simp; rfl)
        intro g320 hg w321 hbox hb
        replace HS : Aside0 (Sep (fps []) w [b1 g25 a21 a22 a23 a24, b2 g28 0 0 0 0 0 0 0 0, b2 g312 0 0 0 0 0 0 0 0, b3 g315 a21 a22, b4 g320 24 a23 t156] w321) := ⟨HS.out.box hg hbox hb⟩
        clear hg hbox hb
        refine hK.out _ _ (⟨blk_cellv (HS.out.at0) 2 rfl, blk_cellv (HS.out.at0) 0 rfl, blk_cellv (HS.out.at0) 1 rfl⟩) (fun hHeld => ?_)
        clear hK K
        refine norm_ (a' := ?_) ?_ ?_
        rotate_left
        · show Act.put _ (some 20) _ = _
          simp only [Act.put, List.setIfInBounds_toArray, List.set_cons_zero, List.set_cons_succ, i64_w, i32_w]
          rfl
        refine one_ (i := 9) (N := some 21) #[true, true, true, true, true, true, true, true, true, true, true, true, true, false, true, false] rfl rfl (by kernel_rfl) (by decide) (fun K hK => ?_)
        refine goes_ Tryd.func122 (by kernel_rfl) rfl #[.slice (some ⟨g320, 0, none⟩) 3 3] (by rfl) rfl rfl (by (try simp only [List.map_toArray, List.map_cons, List.map_nil]); first | done | rfl) ?_
        refine (ratio_Add.calls _ [24, a23, t156] (some ⟨g320, 0, none⟩) 3 t182 _ ⟨Rd.lit (l := []) (xs := [24, a23, t156]) HS.out 4 rfl (by simp)⟩ ⟨HGl0.out.pass (l := []) HS.out⟩ ⟨Sep.start _⟩ HA183).mono ?_
        rintro e_ w324 ⟨rfl, hS⟩
        replace HS : Aside0 (Sep (fps []) w [b1 g25 a21 a22 a23 a24, b2 g28 0 0 0 0 0 0 0 0, b2 g312 0 0 0 0 0 0 0 0, b3 g315 a21 a22, b4 g320 24 a23 t156] w324) := ⟨HS.out.call hS⟩
        clear hS
        refine ⟨_, rfl, ?_⟩
        refine hK.out _ _ (⟨blk_cellv (HS.out.at0) 2 rfl, blk_cellv (HS.out.at0) 0 rfl, blk_cellv (HS.out.at0) 1 rfl⟩) (fun hHeld => ?_)
        clear hK K
        refine norm_ (a' := ?_) ?_ ?_
        rotate_left
        · show Act.put _ (some 21) _ = _
          simp only [Act.put, List.setIfInBounds_toArray, List.set_cons_zero, List.set_cons_succ, i64_w, i32_w]
          rfl
        refine pure_ (i := 13) (N := some 25) (v := ?_) (a' := ?_) #[true, true, true, true, true, true, true, true, true, true, true, true, true, true, true, false] rfl rfl (by kernel_rfl) (fun _ _ _ h => h) (Or.inl ⟨by rfl, ?_⟩) ?_ ?_
        rotate_left
        · intro w'
          go_simp
          with_reducible rfl
        rotate_left
        · simp only [Act.put, List.setIfInBounds_toArray, List.set_cons_zero, List.set_cons_succ, i64_w, i32_w]
          rfl
        refine one_ (i := 15) (N := none) #[true, true, true, true, true, true, true, true, true, true, true, true, true, true, true, true] rfl rfl (by kernel_rfl) (by decide) (fun K hK => ?_)
        have hc326 := blk_cellv (v := .int .i64 0) (HS.out.at2) 0 rfl
        have hz327 := blk_fz (HS.out.at2) 0
        have hc328 := blk_cellv (v := .int .i64 0) (HS.out.at2) 1 rfl
        have hz329 := blk_fz (HS.out.at2) 1
        have hc330 := blk_cellv (v := .int .i64 0) (HS.out.at2) 2 rfl
        have hz331 := blk_fz (HS.out.at2) 2
        have hc332 := blk_cellv (v := .int .i64 0) (HS.out.at2) 3 rfl
        have hz333 := blk_fz (HS.out.at2) 3
        have hc334 := blk_cellv (v := .int .i64 0) (HS.out.at2) 4 rfl
        have hz335 := blk_fz (HS.out.at2) 4
        have hc336 := blk_cellv (v := .int .i64 0) (HS.out.at2) 5 rfl
        have hz337 := blk_fz (HS.out.at2) 5
        have hc338 := blk_cellv (v := .int .i64 0) (HS.out.at2) 6 rfl
        have hz339 := blk_fz (HS.out.at2) 6
        have hc340 := blk_cellv (v := .int .i64 0) (HS.out.at2) 7 rfl
        have hz341 := blk_fz (HS.out.at2) 7
        refine store_step (w1 := (World.setCell (World.setCell (World.setCell (World.setCell (World.setCell (World.setCell (World.setCell (World.setCell w324 ⟨g312, 0, none⟩ (.int .i64 t182)) ⟨g312, 1, none⟩ (.int .i64 (wrap64 (a22 - 8)))) ⟨g312, 2, none⟩ (.int .i64 0)) ⟨g312, 3, none⟩ (.int .i64 0)) ⟨g312, 4, none⟩ (.int .i64 0)) ⟨g312, 5, none⟩ (.int .i64 0)) ⟨g312, 6, none⟩ (.int .i64 0)) ⟨g312, 7, none⟩ (.int .i64 0))) (by rfl) rfl ?hr ?_
        case hr => first | (go_simp; done) | (go_simp; rfl)
        clear hc326 hz327 hc328 hz329 hc330 hz331 hc332 hz333 hc334 hz335 hc336 hz337 hc338 hz339 hc340 hz341
        intro w325 hst
        replace HS : Aside0 (Sep (fps []) w [b1 g25 a21 a22 a23 a24, b2 g28 0 0 0 0 0 0 0 0, b2 g312 t182 (wrap64 (a22 - 8)) 0 0 0 0 0 0, b3 g315 a21 a22, b4 g320 24 a23 t156] w325) := ⟨by rw [hst]; exact HS.out.setAll (l1 := [b1 g25 a21 a22 a23 a24, b2 g28 0 0 0 0 0 0 0 0]) (l2 := [b3 g315 a21 a22, b4 g320 24 a23 t156]) [.int .i64 t182, .int .i64 (wrap64 (a22 - 8)), .int .i64 0, .int .i64 0, .int .i64 0, .int .i64 0, .int .i64 0, .int .i64 0] rfl⟩
        clear hst
        refine hK.out _ _ (⟨blk_cellv (HS.out.at0) 2 rfl, blk_cellv (HS.out.at0) 0 rfl, blk_cellv (HS.out.at0) 1 rfl⟩) (fun hHeld => ?_)
        clear hK K
        refine done_ (by kernel_rfl) ?_
        go_wp2_with fail
        go_meet
        case rel => exact ⟨g315, g320, g312, (by first | rfl | (simp [IntKind.wrap_u32]; done)), ⟨(((((HS.out).front 2 (by simp)).front 4 (by simp)).front 4 (by simp)).front 4 (by simp)).front 4 (by simp)⟩⟩
    case rest =>
      clear HS
      obtain ⟨g82, g159, g185, rfl, HS⟩ := hcut
      obtain ⟨w205, rfl⟩ : ∃ x : World, x = wc := ⟨_, rfl⟩
      replace HS : Aside0 (Sep (fps []) w [b1 g25 a21 a22 a23 a24, b2 g28 0 0 0 0 0 0 0 0, b2 g185 t182 (wrap64 (a22 - 8)) 0 0 0 0 0 0] w205) := ⟨HS.out.sub (.cons_cons _ (.cons_cons _ (.cons _ (.cons _ (.cons_cons _ .slnil)))))⟩
      have hc342 : w205.cell? ⟨g185, 1, none⟩ = some (.int .i64 (wrap64 (a22 - 8))) := blk_cellv (HS.out.at2) 1 rfl
      have hc343 : w205.cell? ⟨g185, 2, none⟩ = some (.int .i64 0) := blk_cellv (HS.out.at2) 2 rfl
      have hz344 : w205.frozen? ⟨g185, 2, none⟩ = false := blk_fz (HS.out.at2) 2
      go_wp2_with (first | ((with_reducible refine gate_store (t := 3) (p := 29) rfl ?_); refine store_event (w1 := (World.setCell w205 ⟨g185, 2, none⟩ (.int .i64 (wrap64 ((wrap64 (a22 - 8)) + 1))))) rfl (t := 3) (p := 29) rfl rfl ?hr ?_; (case hr => first | (go_simp; done) | (go_simp; rfl)); intro w345 hst; clear hc342 hc343 hz344; have hq0 : Sep (fps []) w [b1 g25 a21 a22 a23 a24, b2 g28 0 0 0 0 0 0 0 0, b2 g185 t182 (wrap64 (a22 - 8)) (wrap64 ((wrap64 (a22 - 8)) + 1)) 0 0 0 0 0] (World.setCell w205 ⟨g185, 2, none⟩ (.int .i64 (wrap64 ((wrap64 (a22 - 8)) + 1)))) := (HS.out).set1 (l1 := [b1 g25 a21 a22 a23 a24, b2 g28 0 0 0 0 0 0 0 0]) (l2 := []) 2 (.int .i64 (wrap64 ((wrap64 (a22 - 8)) + 1))); replace HS : Aside0 (Sep (fps []) w [b1 g25 a21 a22 a23 a24, b2 g28 0 0 0 0 0 0 0 0, b2 g185 t182 (wrap64 (a22 - 8)) (wrap64 ((wrap64 (a22 - 8)) + 1)) 0 0 0 0 0] w345) := ⟨by rw [hst]; exact hq0⟩; clear hq0; clear hst; have hc346 : w345.cell? ⟨g185, 1, none⟩ = some (.int .i64 (wrap64 (a22 - 8))) := blk_cellv (HS.out.at2) 1 rfl; have hc347 : w345.cell? ⟨g25, 1, none⟩ = some (.int .i64 a22) := blk_cellv (HS.out.at0) 1 rfl) | ((with_reducible refine gate_dst (N := 35) rfl ?_); refine slice_on (n := 2) ?hg (N := 35) ?hd (cs := #[.int .i64 (wrap64 (a22 - 8)), .int .i64 (wrap64 (a22 - 1))]) (t := 3) ?hr ?_; (case hd => rfl); (case hg => rfl); (case hr => first | (go_simp; done) | (go_simp; rfl)); intro g348 hg w349 hbox hb; clear hc346 hc347; replace HS : Aside0 (Sep (fps []) w [b1 g25 a21 a22 a23 a24, b2 g28 0 0 0 0 0 0 0 0, b2 g185 t182 (wrap64 (a22 - 8)) (wrap64 ((wrap64 (a22 - 8)) + 1)) 0 0 0 0 0, b3 g348 (wrap64 (a22 - 8)) (wrap64 (a22 - 1))] w349) := ⟨HS.out.box hg hbox hb⟩; clear hg hbox hb))
      obtain ⟨t351, HA352, H⟩ := bind_some H
      refine (ratio_Mul.calls _ [wrap64 (a22 - 8), wrap64 (a22 - 1)] (some ⟨g348, 0, none⟩) 2 t351 _ ⟨Rd.lit (l := []) (xs := [wrap64 (a22 - 8), wrap64 (a22 - 1)]) HS.out 3 rfl (by simp)⟩ ⟨HGl0.out.pass (l := []) HS.out⟩ ⟨Sep.start _⟩ HA352).mono ?_
      rintro e_ w353 ⟨rfl, hS⟩
      replace HS : Aside0 (Sep (fps []) w [b1 g25 a21 a22 a23 a24, b2 g28 0 0 0 0 0 0 0 0, b2 g185 t182 (wrap64 (a22 - 8)) (wrap64 ((wrap64 (a22 - 8)) + 1)) 0 0 0 0 0, b3 g348 (wrap64 (a22 - 8)) (wrap64 (a22 - 1))] w353) := ⟨HS.out.call hS⟩
      clear hS
      have hc354 : w353.cell? ⟨g185, 3, none⟩ = some (.int .i64 0) := blk_cellv (HS.out.at2) 3 rfl
      have hz355 : w353.frozen? ⟨g185, 3, none⟩ = false := blk_fz (HS.out.at2) 3
      go_wp2_with (first | ((with_reducible refine gate_store (t := 3) (p := 37) rfl ?_); refine store_event (w1 := (World.setCell w353 ⟨g185, 3, none⟩ (.int .i64 t351))) rfl (t := 3) (p := 37) rfl rfl ?hr ?_; (case hr => first | (go_simp; done) | (go_simp; rfl)); intro w356 hst; clear hc354 hz355; have hq0 : Sep (fps []) w [b1 g25 a21 a22 a23 a24, b2 g28 0 0 0 0 0 0 0 0, b2 g185 t182 (wrap64 (a22 - 8)) (wrap64 ((wrap64 (a22 - 8)) + 1)) t351 0 0 0 0, b3 g348 (wrap64 (a22 - 8)) (wrap64 (a22 - 1))] (World.setCell w353 ⟨g185, 3, none⟩ (.int .i64 t351)) := (HS.out).set1 (l1 := [b1 g25 a21 a22 a23 a24, b2 g28 0 0 0 0 0 0 0 0]) (l2 := [b3 g348 (wrap64 (a22 - 8)) (wrap64 (a22 - 1))]) 3 (.int .i64 t351); replace HS : Aside0 (Sep (fps []) w [b1 g25 a21 a22 a23 a24, b2 g28 0 0 0 0 0 0 0 0, b2 g185 t182 (wrap64 (a22 - 8)) (wrap64 ((wrap64 (a22 - 8)) + 1)) t351 0 0 0 0, b3 g348 (wrap64 (a22 - 8)) (wrap64 (a22 - 1))] w356) := ⟨by rw [hst]; exact hq0⟩; clear hq0; clear hst; replace HS : Aside0 (Sep (fps []) w [b1 g25 a21 a22 a23 a24, b2 g28 0 0 0 0 0 0 0 0, b2 g185 t182 (wrap64 (a22 - 8)) (wrap64 ((wrap64 (a22 - 8)) + 1)) t351 0 0 0 0] w356) := ⟨HS.out.sub (.cons_cons _ (.cons_cons _ (.cons_cons _ (.cons _ .slnil))))⟩; have hc357 : w356.cell? ⟨g25, 0, none⟩ = some (.int .i64 a21) := blk_cellv (HS.out.at0) 0 rfl; have hc358 : w356.cell? ⟨g25, 1, none⟩ = some (.int .i64 a22) := blk_cellv (HS.out.at0) 1 rfl) | ((with_reducible refine gate_dst (N := 43) rfl ?_); refine slice_on (n := 2) ?hg (N := 43) ?hd (cs := #[.int .i64 a21, .int .i64 (wrap64 (a22 + 1))]) (t := 3) ?hr ?_; (case hd => rfl); (case hg => rfl); (case hr => first | (go_simp; done) | (go_simp; rfl)); intro g359 hg w360 hbox hb; clear hc357 hc358; replace HS : Aside0 (Sep (fps []) w [b1 g25 a21 a22 a23 a24, b2 g28 0 0 0 0 0 0 0 0, b2 g185 t182 (wrap64 (a22 - 8)) (wrap64 ((wrap64 (a22 - 8)) + 1)) t351 0 0 0 0, b3 g359 a21 (wrap64 (a22 + 1))] w360) := ⟨HS.out.box hg hbox hb⟩; clear hg hbox hb))
      obtain ⟨t362, HA363, H⟩ := bind_some H
      refine (ratio_Mul.calls _ [a21, wrap64 (a22 + 1)] (some ⟨g359, 0, none⟩) 2 t362 _ ⟨Rd.lit (l := []) (xs := [a21, wrap64 (a22 + 1)]) HS.out 3 rfl (by simp)⟩ ⟨HGl0.out.pass (l := []) HS.out⟩ ⟨Sep.start _⟩ HA363).mono ?_
      rintro e_ w364 ⟨rfl, hS⟩
      replace HS : Aside0 (Sep (fps []) w [b1 g25 a21 a22 a23 a24, b2 g28 0 0 0 0 0 0 0 0, b2 g185 t182 (wrap64 (a22 - 8)) (wrap64 ((wrap64 (a22 - 8)) + 1)) t351 0 0 0 0, b3 g359 a21 (wrap64 (a22 + 1))] w364) := ⟨HS.out.call hS⟩
      clear hS
      have hc365 : w364.cell? ⟨g185, 5, none⟩ = some (.int .i64 0) := blk_cellv (HS.out.at2) 5 rfl
      have hz366 : w364.frozen? ⟨g185, 5, none⟩ = false := blk_fz (HS.out.at2) 5
      go_wp2_with (first | ((with_reducible refine gate_store (t := 3) (p := 45) rfl ?_); refine store_event (w1 := (World.setCell w364 ⟨g185, 5, none⟩ (.int .i64 t362))) rfl (t := 3) (p := 45) rfl rfl ?hr ?_; (case hr => first | (go_simp; done) | (go_simp; rfl)); intro w367 hst; clear hc365 hz366; have hq0 : Sep (fps []) w [b1 g25 a21 a22 a23 a24, b2 g28 0 0 0 0 0 0 0 0, b2 g185 t182 (wrap64 (a22 - 8)) (wrap64 ((wrap64 (a22 - 8)) + 1)) t351 0 t362 0 0, b3 g359 a21 (wrap64 (a22 + 1))] (World.setCell w364 ⟨g185, 5, none⟩ (.int .i64 t362)) := (HS.out).set1 (l1 := [b1 g25 a21 a22 a23 a24, b2 g28 0 0 0 0 0 0 0 0]) (l2 := [b3 g359 a21 (wrap64 (a22 + 1))]) 5 (.int .i64 t362); replace HS : Aside0 (Sep (fps []) w [b1 g25 a21 a22 a23 a24, b2 g28 0 0 0 0 0 0 0 0, b2 g185 t182 (wrap64 (a22 - 8)) (wrap64 ((wrap64 (a22 - 8)) + 1)) t351 0 t362 0 0, b3 g359 a21 (wrap64 (a22 + 1))] w367) := ⟨by rw [hst]; exact hq0⟩; clear hq0; clear hst; replace HS : Aside0 (Sep (fps []) w [b1 g25 a21 a22 a23 a24, b2 g28 0 0 0 0 0 0 0 0, b2 g185 t182 (wrap64 (a22 - 8)) (wrap64 ((wrap64 (a22 - 8)) + 1)) t351 0 t362 0 0] w367) := ⟨HS.out.sub (.cons_cons _ (.cons_cons _ (.cons_cons _ (.cons _ .slnil))))⟩; have hc368 : w367.cell? ⟨g185, 5, none⟩ = some (.int .i64 t362) := blk_cellv (HS.out.at2) 5 rfl) | ((with_reducible refine gate_dst (N := 48) rfl ?_); refine slice_on (n := 2) ?hg (N := 48) ?hd (cs := #[.int .i64 3, .int .i64 t362]) (t := 3) ?hr ?_; (case hd => rfl); (case hg => rfl); (case hr => first | (go_simp; done) | (go_simp; rfl)); intro g369 hg w370 hbox hb; clear hc368; replace HS : Aside0 (Sep (fps []) w [b1 g25 a21 a22 a23 a24, b2 g28 0 0 0 0 0 0 0 0, b2 g185 t182 (wrap64 (a22 - 8)) (wrap64 ((wrap64 (a22 - 8)) + 1)) t351 0 t362 0 0, b3 g369 3 t362] w370) := ⟨HS.out.box hg hbox hb⟩; clear hg hbox hb))
      obtain ⟨t372, HA373, H⟩ := bind_some H
      refine (ratio_Mul.calls _ [3, t362] (some ⟨g369, 0, none⟩) 2 t372 _ ⟨Rd.lit (l := []) (xs := [3, t362]) HS.out 3 rfl (by simp)⟩ ⟨HGl0.out.pass (l := []) HS.out⟩ ⟨Sep.start _⟩ HA373).mono ?_
      rintro e_ w374 ⟨rfl, hS⟩
      replace HS : Aside0 (Sep (fps []) w [b1 g25 a21 a22 a23 a24, b2 g28 0 0 0 0 0 0 0 0, b2 g185 t182 (wrap64 (a22 - 8)) (wrap64 ((wrap64 (a22 - 8)) + 1)) t351 0 t362 0 0, b3 g369 3 t362] w374) := ⟨HS.out.call hS⟩
      clear hS
      go_wp2_with (first | ((with_reducible refine gate_dst (N := 50) rfl ?_); refine slice_on (n := 2) ?hg (N := 50) ?hd (cs := #[.int .i64 t372, .int .i64 4]) (t := 3) ?hr ?_; (case hd => rfl); (case hg => rfl); (case hr => first | (go_simp; done) | (go_simp; rfl)); intro g375 hg w376 hbox hb; replace HS : Aside0 (Sep (fps []) w [b1 g25 a21 a22 a23 a24, b2 g28 0 0 0 0 0 0 0 0, b2 g185 t182 (wrap64 (a22 - 8)) (wrap64 ((wrap64 (a22 - 8)) + 1)) t351 0 t362 0 0, b3 g369 3 t362, b3 g375 t372 4] w376) := ⟨HS.out.box hg hbox hb⟩; clear hg hbox hb))
      obtain ⟨t378, HA379, H⟩ := bind_some H
      refine (ratio_Add.calls _ [t372, 4] (some ⟨g375, 0, none⟩) 2 t378 _ ⟨Rd.lit (l := []) (xs := [t372, 4]) HS.out 4 rfl (by simp)⟩ ⟨HGl0.out.pass (l := []) HS.out⟩ ⟨Sep.start _⟩ HA379).mono ?_
      rintro e_ w380 ⟨rfl, hS⟩
      replace HS : Aside0 (Sep (fps []) w [b1 g25 a21 a22 a23 a24, b2 g28 0 0 0 0 0 0 0 0, b2 g185 t182 (wrap64 (a22 - 8)) (wrap64 ((wrap64 (a22 - 8)) + 1)) t351 0 t362 0 0, b3 g369 3 t362, b3 g375 t372 4] w380) := ⟨HS.out.call hS⟩
      clear hS
      have hc381 : w380.cell? ⟨g185, 4, none⟩ = some (.int .i64 0) := blk_cellv (HS.out.at2) 4 rfl
      have hz382 : w380.frozen? ⟨g185, 4, none⟩ = false := blk_fz (HS.out.at2) 4
      go_wp2_with (first | ((with_reducible refine gate_store (t := 3) (p := 52) rfl ?_); refine store_event (w1 := (World.setCell w380 ⟨g185, 4, none⟩ (.int .i64 t378))) rfl (t := 3) (p := 52) rfl rfl ?hr ?_; (case hr => first | (go_simp; done) | (go_simp; rfl)); intro w383 hst; clear hc381 hz382; have hq0 : Sep (fps []) w [b1 g25 a21 a22 a23 a24, b2 g28 0 0 0 0 0 0 0 0, b2 g185 t182 (wrap64 (a22 - 8)) (wrap64 ((wrap64 (a22 - 8)) + 1)) t351 t378 t362 0 0, b3 g369 3 t362, b3 g375 t372 4] (World.setCell w380 ⟨g185, 4, none⟩ (.int .i64 t378)) := (HS.out).set1 (l1 := [b1 g25 a21 a22 a23 a24, b2 g28 0 0 0 0 0 0 0 0]) (l2 := [b3 g369 3 t362, b3 g375 t372 4]) 4 (.int .i64 t378); replace HS : Aside0 (Sep (fps []) w [b1 g25 a21 a22 a23 a24, b2 g28 0 0 0 0 0 0 0 0, b2 g185 t182 (wrap64 (a22 - 8)) (wrap64 ((wrap64 (a22 - 8)) + 1)) t351 t378 t362 0 0, b3 g369 3 t362, b3 g375 t372 4] w383) := ⟨by rw [hst]; exact hq0⟩; clear hq0; clear hst; replace HS : Aside0 (Sep (fps []) w [b1 g25 a21 a22 a23 a24, b2 g28 0 0 0 0 0 0 0 0, b2 g185 t182 (wrap64 (a22 - 8)) (wrap64 ((wrap64 (a22 - 8)) + 1)) t351 t378 t362 0 0] w383) := ⟨HS.out.sub (.cons_cons _ (.cons_cons _ (.cons_cons _ (.cons _ (.cons _ .slnil)))))⟩))
      obtain ⟨t403, HA404, H⟩ := bind_some H
      obtain ⟨t409, HA410, H⟩ := bind_some H
      obtain ⟨t415, HA416, H⟩ := bind_some H
      obtain ⟨t421, HA422, H⟩ := bind_some H
      go_cut [] (fun wc => ∃ (g406 : Nat) (g412 : Nat) (g418 : Nat), Aside0 (Sep (fps []) w [b1 g25 a21 a22 a23 a24, b2 g28 0 0 0 0 0 0 0 0, b2 g185 t182 (wrap64 (a22 - 8)) (wrap64 ((wrap64 (a22 - 8)) + 1)) t351 t378 t362 t421 0, b3 g406 2 t403, b3 g412 2 (wrap64 ((wrap64 (a22 - 8)) + 1)), b3 g418 t409 t415] wc))
      case first =>
        go_wp2_with fail
        refine start_ (n := 15) (S := (fun w' => w'.cell? ⟨g185, 4, none⟩ = some (.int .i64 t378) ∧ w'.cell? ⟨g25, 3, none⟩ = some (.int .i64 a24) ∧ w'.cell? ⟨g185, 2, none⟩ = some (.int .i64 (wrap64 ((wrap64 (a22 - 8)) + 1))))) (ds := []) #[false, false, false, false, false, false, false, false, false, false, false, false, false, false, false] (by kernel_rfl) rfl rfl (⟨blk_cellv ((HS.out.drew).at2) 4 rfl, blk_cellv ((HS.out.drew).at0) 3 rfl, blk_cellv ((HS.out.drew).at2) 2 rfl⟩) (fun hHeld => ?_)
        have HS_ := Aside0.mk HS.out.drew
        clear HS
        generalize World.drew _ = w429 at HS_ hHeld ⊢
        have HS := HS_
        clear HS_
        refine pure_ (i := 0) (N := some 53) (v := ?_) (a' := ?_) #[true, false, false, false, false, false, false, false, false, false, false, false, false, false, false] rfl rfl (by kernel_rfl) (fun _ _ _ h => h) (Or.inl ⟨by rfl, ?_⟩) ?_ ?_
        rotate_left
        · intro w'
          go_simp
          with_reducible rfl
        rotate_left
        · simp only [Act.put, List.setIfInBounds_toArray, List.set_cons_zero, List.set_cons_succ, i64_w, i32_w]
          rfl
        refine pure_ (i := 2) (N := some 55) (v := ?_) (a' := ?_) #[true, false, true, false, false, false, false, false, false, false, false, false, false, false, false] rfl rfl (by kernel_rfl) (fun _ _ _ h => h) (Or.inl ⟨by rfl, ?_⟩) ?_ ?_
        rotate_left
        · intro w'
          go_simp
          with_reducible rfl
        rotate_left
        · simp only [Act.put, List.setIfInBounds_toArray, List.set_cons_zero, List.set_cons_succ, i64_w, i32_w]
          rfl
        refine pure_ (i := 7) (N := some 60) (v := ?_) (a' := ?_) #[true, false, true, false, false, false, false, true, false, false, false, false, false, false, false] rfl rfl (by kernel_rfl) (fun _ _ _ h => h) (Or.inl ⟨by rfl, ?_⟩) ?_ ?_
        rotate_left
        · intro w'
          go_simp
          with_reducible rfl
        rotate_left
        · simp only [Act.put, List.setIfInBounds_toArray, List.set_cons_zero, List.set_cons_succ, i64_w, i32_w]
          rfl
        refine take_ (i := 1) (N := some 54) (v := ?_) (a' := ?_) #[true, true, true, false, false, false, false, true, false, false, false, false, false, false, false] rfl rfl (by kernel_rfl) (fun _ _ _ h => h) (Or.inl ⟨by rfl, ?_⟩) hHeld ?_ ?_
        rotate_left
        · rintro w' hS'
          obtain ⟨s0, s1, s2⟩ := hS'
          go_simp
          with_reducible rfl
        rotate_left
        · simp only [Act.put, List.setIfInBounds_toArray, List.set_cons_zero, List.set_cons_succ, i64_w, i32_w]
          rfl
        refine take_ (i := 3) (N := some 56) (v := ?_) (a' := ?_) #[true, true, true, true, false, false, false, true, false, false, false, false, false, false, false] rfl rfl (by kernel_rfl) (fun _ _ _ h => h) (Or.inl ⟨by rfl, ?_⟩) hHeld ?_ ?_
        rotate_left
        · rintro w' hS'
          obtain ⟨s0, s1, s2⟩ := hS'
          go_simp
          with_reducible rfl
        rotate_left
        · simp only [Act.put, List.setIfInBounds_toArray, List.set_cons_zero, List.set_cons_succ, i64_w, i32_w]
          rfl
        refine take_ (i := 8) (N := some 61) (v := ?_) (a' := ?_) #[true, true, true, true, false, false, false, true, true, false, false, false, false, false, false] rfl rfl (by kernel_rfl) (fun _ _ _ h => h) (Or.inl ⟨by rfl, ?_⟩) hHeld ?_ ?_
        rotate_left
        · rintro w' hS'
          obtain ⟨s0, s1, s2⟩ := hS'
          go_simp
          with_reducible rfl
        rotate_left
        · simp only [Act.put, List.setIfInBounds_toArray, List.set_cons_zero, List.set_cons_succ, i64_w, i32_w]
          rfl
        refine two_ (i := 4) (j := 9) (Ni := some 57) (Nj := some 62) #[true, true, true, true, true, false, false, true, true, false, false, false, false, false, false] #[true, true, true, true, false, false, false, true, true, true, false, false, false, false, false] rfl rfl rfl rfl (by kernel_rfl) (by decide) (by decide) (fun K hK => ?_) (fun K hK => ?_)
        · refine goes_ Tryd.func124 (by kernel_rfl) rfl #[.int .i64 t378, .int .i64 a24] (by rfl) rfl rfl (by (try simp only [List.map_toArray, List.map_cons, List.map_nil]); first | done | rfl) ?_
          refine (ratio_Up.calls t378 a24 t403 _ ⟨HGl0.out.pass (l := []) HS.out⟩ ⟨Sep.start _⟩ HA404).mono ?_
          rintro e_ w431 ⟨rfl, hS⟩
          replace HS : Aside0 (Sep (fps []) w [b1 g25 a21 a22 a23 a24, b2 g28 0 0 0 0 0 0 0 0, b2 g185 t182 (wrap64 (a22 - 8)) (wrap64 ((wrap64 (a22 - 8)) + 1)) t351 t378 t362 0 0] w431) := ⟨HS.out.call hS⟩
          clear hS
          refine ⟨_, rfl, ?_⟩
          refine hK.out _ _ (⟨blk_cellv (HS.out.at2) 4 rfl, blk_cellv (HS.out.at0) 3 rfl, blk_cellv (HS.out.at2) 2 rfl⟩) (fun hHeld => ?_)
          clear hK K
          refine norm_ (a' := ?_) ?_ ?_
          rotate_left
          · show Act.put _ (some 57) _ = _
            simp only [Act.put, List.setIfInBounds_toArray, List.set_cons_zero, List.set_cons_succ, i64_w, i32_w]
            rfl
          refine two_ (i := 5) (j := 9) (Ni := some 58) (Nj := some 62) #[true, true, true, true, true, true, false, true, true, false, false, false, false, false, false] #[true, true, true, true, true, false, false, true, true, true, false, false, false, false, false] rfl rfl rfl rfl (by kernel_rfl) (by decide) (by decide) (fun K hK => ?_) (fun K hK => ?_)
          · refine slice_step (n := 2) (by rfl) (N := 58) rfl (cs := #[.int .i64 2, .int .i64 t403]) (t := 3) ?hr ?_
            case hr => first | (go_simp; done) | (go_simp; rfl)
            intro g432 hg w433 hbox hb
            replace HS : Aside0 (Sep (fps []) w [b1 g25 a21 a22 a23 a24, b2 g28 0 0 0 0 0 0 0 0, b2 g185 t182 (wrap64 (a22 - 8)) (wrap64 ((wrap64 (a22 - 8)) + 1)) t351 t378 t362 0 0, b3 g432 2 t403] w433) := ⟨HS.out.box hg hbox hb⟩
            clear hg hbox hb
            refine hK.out _ _ (⟨blk_cellv (HS.out.at2) 4 rfl, blk_cellv (HS.out.at0) 3 rfl, blk_cellv (HS.out.at2) 2 rfl⟩) (fun hHeld => ?_)
            clear hK K
            refine norm_ (a' := ?_) ?_ ?_
            rotate_left
            · show Act.put _ (some 58) _ = _
              simp only [Act.put, List.setIfInBounds_toArray, List.set_cons_zero, List.set_cons_succ, i64_w, i32_w]
              rfl
            refine two_ (i := 6) (j := 9) (Ni := some 59) (Nj := some 62) #[true, true, true, true, true, true, true, true, true, false, false, false, false, false, false] #[true, true, true, true, true, true, false, true, true, true, false, false, false, false, false] rfl rfl rfl rfl (by kernel_rfl) (by decide) (by decide) (fun K hK => ?_) (fun K hK => ?_)
            · refine goes_ Tryd.func123 (by kernel_rfl) rfl #[.slice (some ⟨g432, 0, none⟩) 2 2] (by rfl) rfl rfl (by (try simp only [List.map_toArray, List.map_cons, List.map_nil]); first | done | rfl) ?_
              refine (ratio_Mul.calls _ [2, t403] (some ⟨g432, 0, none⟩) 2 t409 _ ⟨Rd.lit (l := []) (xs := [2, t403]) HS.out 3 rfl (by simp)⟩ ⟨HGl0.out.pass (l := []) HS.out⟩ ⟨Sep.start _⟩ HA410).mono ?_
              rintro e_ w436 ⟨rfl, hS⟩
              replace HS : Aside0 (Sep (fps []) w [b1 g25 a21 a22 a23 a24, b2 g28 0 0 0 0 0 0 0 0, b2 g185 t182 (wrap64 (a22 - 8)) (wrap64 ((wrap64 (a22 - 8)) + 1)) t351 t378 t362 0 0, b3 g432 2 t403] w436) := ⟨HS.out.call hS⟩
              clear hS
              refine ⟨_, rfl, ?_⟩
              refine hK.out _ _ (⟨blk_cellv (HS.out.at2) 4 rfl, blk_cellv (HS.out.at0) 3 rfl, blk_cellv (HS.out.at2) 2 rfl⟩) (fun hHeld => ?_)
              clear hK K
              refine norm_ (a' := ?_) ?_ ?_
              rotate_left
              · show Act.put _ (some 59) _ = _
                simp only [Act.put, List.setIfInBounds_toArray, List.set_cons_zero, List.set_cons_succ, i64_w, i32_w]
                rfl
              refine one_ (i := 9) (N := some 62) #[true, true, true, true, true, true, true, true, true, true, false, false, false, false, false] rfl rfl (by kernel_rfl) (by decide) (fun K hK => ?_)
              refine slice_step (n := 2) (by rfl) (N := 62) rfl (cs := #[.int .i64 2, .int .i64 (wrap64 ((wrap64 (a22 - 8)) + 1))]) (t := 3) ?hr ?_
              case hr => first | (go_simp; done) | (go_simp; rfl)
              intro g437 hg w438 hbox hb
              replace HS : Aside0 (Sep (fps []) w [b1 g25 a21 a22 a23 a24, b2 g28 0 0 0 0 0 0 0 0, b2 g185 t182 (wrap64 (a22 - 8)) (wrap64 ((wrap64 (a22 - 8)) + 1)) t351 t378 t362 0 0, b3 g432 2 t403, b3 g437 2 (wrap64 ((wrap64 (a22 - 8)) + 1))] w438) := ⟨HS.out.box hg hbox hb⟩
              clear hg hbox hb
              refine hK.out _ _ (⟨blk_cellv (HS.out.at2) 4 rfl, blk_cellv (HS.out.at0) 3 rfl, blk_cellv (HS.out.at2) 2 rfl⟩) (fun hHeld => ?_)
              clear hK K
              refine norm_ (a' := ?_) ?_ ?_
              rotate_left
              · show Act.put _ (some 62) _ = _
                simp only [Act.put, List.setIfInBounds_toArray, List.set_cons_zero, List.set_cons_succ, i64_w, i32_w]
                rfl
              refine one_ (i := 10) (N := some 63) #[true, true, true, true, true, true, true, true, true, true, true, false, false, false, false] rfl rfl (by kernel_rfl) (by decide) (fun K hK => ?_)
              refine goes_ Tryd.func123 (by kernel_rfl) rfl #[.slice (some ⟨g437, 0, none⟩) 2 2] (by rfl) rfl rfl (by (try simp only [List.map_toArray, List.map_cons, List.map_nil]); first | done | rfl) ?_
              refine (ratio_Mul.calls _ [2, wrap64 ((wrap64 (a22 - 8)) + 1)] (some ⟨g437, 0, none⟩) 2 t415 _ ⟨Rd.lit (l := []) (xs := [2, wrap64 ((wrap64 (a22 - 8)) + 1)]) HS.out 4 rfl (by simp)⟩ ⟨HGl0.out.pass (l := []) HS.out⟩ ⟨Sep.start _⟩ HA416).mono ?_
              rintro e_ w441 ⟨rfl, hS⟩
              replace HS : Aside0 (Sep (fps []) w [b1 g25 a21 a22 a23 a24, b2 g28 0 0 0 0 0 0 0 0, b2 g185 t182 (wrap64 (a22 - 8)) (wrap64 ((wrap64 (a22 - 8)) + 1)) t351 t378 t362 0 0, b3 g432 2 t403, b3 g437 2 (wrap64 ((wrap64 (a22 - 8)) + 1))] w441) := ⟨HS.out.call hS⟩
              clear hS
              refine ⟨_, rfl, ?_⟩
              refine hK.out _ _ (⟨blk_cellv (HS.out.at2) 4 rfl, blk_cellv (HS.out.at0) 3 rfl, blk_cellv (HS.out.at2) 2 rfl⟩) (fun hHeld => ?_)
              clear hK K
              refine norm_ (a' := ?_) ?_ ?_
              rotate_left
              · show Act.put _ (some 63) _ = _
                simp only [Act.put, List.setIfInBounds_toArray, List.set_cons_zero, List.set_cons_succ, i64_w, i32_w]
                rfl
              refine one_ (i := 11) (N := some 64) #[true, true, true, true, true, true, true, true, true, true, true, true, false, false, false] rfl rfl (by kernel_rfl) (by decide) (fun K hK => ?_)
              refine slice_step (n := 2) (by rfl) (N := 64) rfl (cs := #[.int .i64 t409, .int .i64 t415]) (t := 3) ?hr ?_
              case hr => first | (go_simp; done) | (go_simp; rfl)
              intro g442 hg w443 hbox hb
              replace HS : Aside0 (Sep (fps []) w [b1 g25 a21 a22 a23 a24, b2 g28 0 0 0 0 0 0 0 0, b2 g185 t182 (wrap64 (a22 - 8)) (wrap64 ((wrap64 (a22 - 8)) + 1)) t351 t378 t362 0 0, b3 g432 2 t403, b3 g437 2 (wrap64 ((wrap64 (a22 - 8)) + 1)), b3 g442 t409 t415] w443) := ⟨HS.out.box hg hbox hb⟩
              clear hg hbox hb
              refine hK.out _ _ (⟨blk_cellv (HS.out.at2) 4 rfl, blk_cellv (HS.out.at0) 3 rfl, blk_cellv (HS.out.at2) 2 rfl⟩) (fun hHeld => ?_)
              clear hK K
              refine norm_ (a' := ?_) ?_ ?_
              rotate_left
              · show Act.put _ (some 64) _ = _
                simp only [Act.put, List.setIfInBounds_toArray, List.set_cons_zero, List.set_cons_succ, i64_w, i32_w]
                rfl
              refine one_ (i := 12) (N := some 65) #[true, true, true, true, true, true, true, true, true, true, true, true, true, false, false] rfl rfl (by kernel_rfl) (by decide) (fun K hK => ?_)
              refine goes_ Tryd.func122 (by kernel_rfl) rfl #[.slice (some ⟨g442, 0, none⟩) 2 2] (by rfl) rfl rfl (by (try simp only [List.map_toArray, List.map_cons, List.map_nil]); first | done | rfl) ?_
              refine (ratio_Add.calls _ [t409, t415] (some ⟨g442, 0, none⟩) 2 t421 _ ⟨Rd.lit (l := []) (xs := [t409, t415]) HS.out 5 rfl (by simp)⟩ ⟨HGl0.out.pass (l := []) HS.out⟩ ⟨Sep.start _⟩ HA422).mono ?_
              rintro e_ w446 ⟨rfl, hS⟩
              replace HS : Aside0 (Sep (fps []) w [b1 g25 a21 a22 a23 a24, b2 g28 0 0 0 0 0 0 0 0, b2 g185 t182 (wrap64 (a22 - 8)) (wrap64 ((wrap64 (a22 - 8)) + 1)) t351 t378 t362 0 0, b3 g432 2 t403, b3 g437 2 (wrap64 ((wrap64 (a22 - 8)) + 1)), b3 g442 t409 t415] w446) := ⟨HS.out.call hS⟩
              clear hS
              refine ⟨_, rfl, ?_⟩
              refine hK.out _ _ (⟨blk_cellv (HS.out.at2) 4 rfl, blk_cellv (HS.out.at0) 3 rfl, blk_cellv (HS.out.at2) 2 rfl⟩) (fun hHeld => ?_)
              clear hK K
              refine norm_ (a' := ?_) ?_ ?_
              rotate_left
              · show Act.put _ (some 65) _ = _
                simp only [Act.put, List.setIfInBounds_toArray, List.set_cons_zero, List.set_cons_succ, i64_w, i32_w]
                rfl
              refine pure_ (i := 13) (N := some 66) (v := ?_) (a' := ?_) #[true, true, true, true, true, true, true, true, true, true, true, true, true, true, false] rfl rfl (by kernel_rfl) (fun _ _ _ h => h) (Or.inl ⟨by rfl, ?_⟩) ?_ ?_
              rotate_left
              · intro w'
                go_simp
                with_reducible rfl
              rotate_left
              · simp only [Act.put, List.setIfInBounds_toArray, List.set_cons_zero, List.set_cons_succ, i64_w, i32_w]
                rfl
              refine one_ (i := 14) (N := none) #[true, true, true, true, true, true, true, true, true, true, true, true, true, true, true] rfl rfl (by kernel_rfl) (by decide) (fun K hK => ?_)
              have hc448 := blk_cellv (v := .int .i64 0) (HS.out.at2) 6 rfl
              have hz449 := blk_fz (HS.out.at2) 6
              refine store_step (w1 := (World.setCell w446 ⟨g185, 6, none⟩ (.int .i64 t421))) (by rfl) rfl ?hr ?_
              case hr => first | (go_simp; done) | (go_simp; rfl)
              clear hc448 hz449
              intro w447 hst
              have hq0 : Sep (fps []) w [b1 g25 a21 a22 a23 a24, b2 g28 0 0 0 0 0 0 0 0, b2 g185 t182 (wrap64 (a22 - 8)) (wrap64 ((wrap64 (a22 - 8)) + 1)) t351 t378 t362 t421 0, b3 g432 2 t403, b3 g437 2 (wrap64 ((wrap64 (a22 - 8)) + 1)), b3 g442 t409 t415] (World.setCell w446 ⟨g185, 6, none⟩ (.int .i64 t421)) := (HS.out).set1 (l1 := [b1 g25 a21 a22 a23 a24, b2 g28 0 0 0 0 0 0 0 0]) (l2 := [b3 g432 2 t403, b3 g437 2 (wrap64 ((wrap64 (a22 - 8)) + 1)), b3 g442 t409 t415]) 6 (.int .i64 t421)
              have HS_ : Aside0 (Sep (fps []) w [b1 g25 a21 a22 a23 a24, b2 g28 0 0 0 0 0 0 0 0, b2 g185 t182 (wrap64 (a22 - 8)) (wrap64 ((wrap64 (a22 - 8)) + 1)) t351 t378 t362 t421 0, b3 g432 2 t403, b3 g437 2 (wrap64 ((wrap64 (a22 - 8)) + 1)), b3 g442 t409 t415] w447) := ⟨by rw [hst]; exact hq0⟩
              clear hq0
              clear HS hst
              have HS := HS_
              clear HS_
              refine hK.out _ _ (⟨blk_cellv (HS.out.at2) 4 rfl, blk_cellv (HS.out.at0) 3 rfl, blk_cellv (HS.out.at2) 2 rfl⟩) (fun hHeld => ?_)
              clear hK K
              refine done_ (by kernel_rfl) ?_
              go_wp2_with fail
              go_meet
              case rel => exact ⟨g432, g437, g442, ⟨((((((HS.out).front 5 (by simp)).front 5 (by simp)).front 5 (by simp)).front 5 (by simp)).front 5 (by simp)).front 5 (by simp)⟩⟩
            · refine slice_step (n := 2) (by rfl) (N := 62) rfl (cs := #[.int .i64 2, .int .i64 (wrap64 ((wrap64 (a22 - 8)) + 1))]) (t := 3) ?hr ?_
              case hr => first | (go_simp; done) | (go_simp; rfl)
              intro g450 hg w451 hbox hb
              replace HS : Aside0 (Sep (fps []) w [b1 g25 a21 a22 a23 a24, b2 g28 0 0 0 0 0 0 0 0, b2 g185 t182 (wrap64 (a22 - 8)) (wrap64 ((wrap64 (a22 - 8)) + 1)) t351 t378 t362 0 0, b3 g432 2 t403, b3 g450 2 (wrap64 ((wrap64 (a22 - 8)) + 1))] w451) := ⟨HS.out.box hg hbox hb⟩
              clear hg hbox hb
              refine hK.out _ _ (⟨blk_cellv (HS.out.at2) 4 rfl, blk_cellv (HS.out.at0) 3 rfl, blk_cellv (HS.out.at2) 2 rfl⟩) (fun hHeld => ?_)
              clear hK K
              refine norm_ (a' := ?_) ?_ ?_
              rotate_left
              · show Act.put _ (some 62) _ = _
                simp only [Act.put, List.setIfInBounds_toArray, List.set_cons_zero, List.set_cons_succ, i64_w, i32_w]
                rfl
              refine one_ (i := 6) (N := some 59) #[true, true, true, true, true, true, true, true, true, true, false, false, false, false, false] rfl rfl (by kernel_rfl) (by decide) (fun K hK => ?_)
              refine goes_ Tryd.func123 (by kernel_rfl) rfl #[.slice (some ⟨g432, 0, none⟩) 2 2] (by rfl) rfl rfl (by (try simp only [List.map_toArray, List.map_cons, List.map_nil]); first | done | rfl) ?_
              refine (ratio_Mul.calls _ [2, t403] (some ⟨g432, 0, none⟩) 2 t409 _ ⟨Rd.lit (l := []) (xs := [2, t403]) HS.out 3 rfl (by simp)⟩ ⟨HGl0.out.pass (l := []) HS.out⟩ ⟨Sep.start _⟩ HA410).mono ?_
              rintro e_ w454 ⟨rfl, hS⟩
              replace HS : Aside0 (Sep (fps []) w [b1 g25 a21 a22 a23 a24, b2 g28 0 0 0 0 0 0 0 0, b2 g185 t182 (wrap64 (a22 - 8)) (wrap64 ((wrap64 (a22 - 8)) + 1)) t351 t378 t362 0 0, b3 g432 2 t403, b3 g450 2 (wrap64 ((wrap64 (a22 - 8)) + 1))] w454) := ⟨HS.out.call hS⟩
              clear hS
              refine ⟨_, rfl, ?_⟩
              refine hK.out _ _ (⟨blk_cellv (HS.out.at2) 4 rfl, blk_cellv (HS.out.at0) 3 rfl, blk_cellv (HS.out.at2) 2 rfl⟩) (fun hHeld => ?_)
              clear hK K
              refine norm_ (a' := ?_) ?_ ?_
              rotate_left
              · show Act.put _ (some 59) _ = _
                simp only [Act.put, List.setIfInBounds_toArray, List.set_cons_zero, List.set_cons_succ, i64_w, i32_w]
                rfl
              refine one_ (i := 10) (N := some 63) #[true, true, true, true, true, true, true, true, true, true, true, false, false, false, false] rfl rfl (by kernel_rfl) (by decide) (fun K hK => ?_)
              refine goes_ Tryd.func123 (by kernel_rfl) rfl #[.slice (some ⟨g450, 0, none⟩) 2 2] (by rfl) rfl rfl (by (try simp only [List.map_toArray, List.map_cons, List.map_nil]); first | done | rfl) ?_
              refine (ratio_Mul.calls _ [2, wrap64 ((wrap64 (a22 - 8)) + 1)] (some ⟨g450, 0, none⟩) 2 t415 _ ⟨Rd.lit (l := []) (xs := [2, wrap64 ((wrap64 (a22 - 8)) + 1)]) HS.out 4 rfl (by simp)⟩ ⟨HGl0.out.pass (l := []) HS.out⟩ ⟨Sep.start _⟩ HA416).mono ?_
              rintro e_ w456 ⟨rfl, hS⟩
              replace HS : Aside0 (Sep (fps []) w [b1 g25 a21 a22 a23 a24, b2 g28 0 0 0 0 0 0 0 0, b2 g185 t182 (wrap64 (a22 - 8)) (wrap64 ((wrap64 (a22 - 8)) + 1)) t351 t378 t362 0 0, b3 g432 2 t403, b3 g450 2 (wrap64 ((wrap64 (a22 - 8)) + 1))] w456) := ⟨HS.out.call hS⟩
              clear hS
              refine ⟨_, rfl, ?_⟩
              refine hK.out _ _ (⟨blk_cellv (HS.out.at2) 4 rfl, blk_cellv (HS.out.at0) 3 rfl, blk_cellv (HS.out.at2) 2 rfl⟩) (fun hHeld => ?_)
              clear hK K
              refine norm_ (a' := ?_) ?_ ?_
              rotate_left
              · show Act.put _ (some 63) _ = _
                simp only [Act.put, List.setIfInBounds_toArray, List.set_cons_zero, List.set_cons_succ, i64_w, i32_w]
                rfl
              refine one_ (i := 11) (N := some 64) #[true, true, true, true, true, true, true, true, true, true, true, true, false, false, false] rfl rfl (by kernel_rfl) (by decide) (fun K hK => ?_)
              refine slice_step (n := 2) (by rfl) (N := 64) rfl (cs := #[.int .i64 t409, .int .i64 t415]) (t := 3) ?hr ?_
              case hr => first | (go_simp; done) | (go_simp; rfl)
              intro g457 hg w458 hbox hb
              replace HS : Aside0 (Sep (fps []) w [b1 g25 a21 a22 a23 a24, b2 g28 0 0 0 0 0 0 0 0, b2 g185 t182 (wrap64 (a22 - 8)) (wrap64 ((wrap64 (a22 - 8)) + 1)) t351 t378 t362 0 0, b3 g432 2 t403, b3 g450 2 (wrap64 ((wrap64 (a22 - 8)) + 1)), b3 g457 t409 t415] w458) := ⟨HS.out.box hg hbox hb⟩
              clear hg hbox hb
              refine hK.out _ _ (⟨blk_cellv (HS.out.at2) 4 rfl, blk_cellv (HS.out.at0) 3 rfl, blk_cellv (HS.out.at2) 2 rfl⟩) (fun hHeld => ?_)
              clear hK K
              refine norm_ (a' := ?_) ?_ ?_
              rotate_left
              · show Act.put _ (some 64) _ = _
                simp only [Act.put, List.setIfInBounds_toArray, List.set_cons_zero, List.set_cons_succ, i64_w, i32_w]
                rfl
              refine one_ (i := 12) (N := some 65) #[true, true, true, true, true, true, true, true, true, true, true, true, true, false, false] rfl rfl (by kernel_rfl) (by decide) (fun K hK => ?_)
              refine goes_ Tryd.func122 (by kernel_rfl) rfl #[.slice (some ⟨g457, 0, none⟩) 2 2] (by rfl) rfl rfl (by (try simp only [List.map_toArray, List.map_cons, List.map_nil]); first | done | rfl) ?_
              refine (ratio_Add.calls _ [t409, t415] (some ⟨g457, 0, none⟩) 2 t421 _ ⟨Rd.lit (l := []) (xs := [t409, t415]) HS.out 5 rfl (by simp)⟩ ⟨HGl0.out.pass (l := []) HS.out⟩ ⟨Sep.start _⟩ HA422).mono ?_
              rintro e_ w461 ⟨rfl, hS⟩
              replace HS : Aside0 (Sep (fps []) w [b1 g25 a21 a22 a23 a24, b2 g28 0 0 0 0 0 0 0 0, b2 g185 t182 (wrap64 (a22 - 8)) (wrap64 ((wrap64 (a22 - 8)) + 1)) t351 t378 t362 0 0, b3 g432 2 t403, b3 g450 2 (wrap64 ((wrap64 (a22 - 8)) + 1)), b3 g457 t409 t415] w461) := ⟨HS.out.call hS⟩
              clear hS
              refine ⟨_, rfl, ?_⟩
              refine hK.out _ _ (⟨blk_cellv (HS.out.at2) 4 rfl, blk_cellv (HS.out.at0) 3 rfl, blk_cellv (HS.out.at2) 2 rfl⟩) (fun hHeld => ?_)
              clear hK K
              refine norm_ (a' := ?_) ?_ ?_
              rotate_left
              · show Act.put _ (some 65) _ = _
                simp only [Act.put, List.setIfInBounds_toArray, List.set_cons_zero, List.set_cons_succ, i64_w, i32_w]
                rfl
              refine pure_ (i := 13) (N := some 66) (v := ?_) (a' := ?_) #[true, true, true, true, true, true, true, true, true, true, true, true, true, true, false] rfl rfl (by kernel_rfl) (fun _ _ _ h => h) (Or.inl ⟨by rfl, ?_⟩) ?_ ?_
              rotate_left
              · intro w'
                go_simp
                with_reducible rfl
              rotate_left
              · simp only [Act.put, List.setIfInBounds_toArray, List.set_cons_zero, List.set_cons_succ, i64_w, i32_w]
                rfl
              refine one_ (i := 14) (N := none) #[true, true, true, true, true, true, true, true, true, true, true, true, true, true, true] rfl rfl (by kernel_rfl) (by decide) (fun K hK => ?_)
              have hc463 := blk_cellv (v := .int .i64 0) (HS.out.at2) 6 rfl
              have hz464 := blk_fz (HS.out.at2) 6
              refine store_step (w1 := (World.setCell w461 ⟨g185, 6, none⟩ (.int .i64 t421))) (by rfl) rfl ?hr ?_
              case hr => first | (go_simp; done) | (go_simp; rfl)
              clear hc463 hz464
              intro w462 hst
              have hq0 : Sep (fps []) w [b1 g25 a21 a22 a23 a24, b2 g28 0 0 0 0 0 0 0 0, b2 g185 t182 (wrap64 (a22 - 8)) (wrap64 ((wrap64 (a22 - 8)) + 1)) t351 t378 t362 t421 0, b3 g432 2 t403, b3 g450 2 (wrap64 ((wrap64 (a22 - 8)) + 1)), b3 g457 t409 t415] (World.setCell w461 ⟨g185, 6, none⟩ (.int .i64 t421)) := (HS.out).set1 (l1 := [b1 g25 a21 a22 a23 a24, b2 g28 0 0 0 0 0 0 0 0]) (l2 := [b3 g432 2 t403, b3 g450 2 (wrap64 ((wrap64 (a22 - 8)) + 1)), b3 g457 t409 t415]) 6 (.int .i64 t421)
              have HS_ : Aside0 (Sep (fps []) w [b1 g25 a21 a22 a23 a24, b2 g28 0 0 0 0 0 0 0 0, b2 g185 t182 (wrap64 (a22 - 8)) (wrap64 ((wrap64 (a22 - 8)) + 1)) t351 t378 t362 t421 0, b3 g432 2 t403, b3 g450 2 (wrap64 ((wrap64 (a22 - 8)) + 1)), b3 g457 t409 t415] w462) := ⟨by rw [hst]; exact hq0⟩
              clear hq0
              clear HS hst
              have HS := HS_
              clear HS_
              refine hK.out _ _ (⟨blk_cellv (HS.out.at2) 4 rfl, blk_cellv (HS.out.at0) 3 rfl, blk_cellv (HS.out.at2) 2 rfl⟩) (fun hHeld => ?_)
              clear hK K
              refine done_ (by kernel_rfl) ?_
              go_wp2_with fail
              go_meet
              case rel => exact ⟨g432, g450, g457, ⟨((((((HS.out).front 5 (by simp)).front 5 (by simp)).front 5 (by simp)).front 5 (by simp)).front 5 (by simp)).front 5 (by simp)⟩⟩
          · refine slice_step (n := 2) (by rfl) (N := 62) rfl (cs := #[.int .i64 2, .int .i64 (wrap64 ((wrap64 (a22 - 8)) + 1))]) (t := 3) ?hr ?_
            case hr => first | (go_simp; done) | (go_simp; rfl)
            intro g465 hg w466 hbox hb
            replace HS : Aside0 (Sep (fps []) w [b1 g25 a21 a22 a23 a24, b2 g28 0 0 0 0 0 0 0 0, b2 g185 t182 (wrap64 (a22 - 8)) (wrap64 ((wrap64 (a22 - 8)) + 1)) t351 t378 t362 0 0, b3 g465 2 (wrap64 ((wrap64 (a22 - 8)) + 1))] w466) := ⟨HS.out.box hg hbox hb⟩
            clear hg hbox hb
            refine hK.out _ _ (⟨blk_cellv (HS.out.at2) 4 rfl, blk_cellv (HS.out.at0) 3 rfl, blk_cellv (HS.out.at2) 2 rfl⟩) (fun hHeld => ?_)
            clear hK K
            refine norm_ (a' := ?_) ?_ ?_
            rotate_left
            · show Act.put _ (some 62) _ = _
              simp only [Act.put, List.setIfInBounds_toArray, List.set_cons_zero, List.set_cons_succ, i64_w, i32_w]
              rfl
            refine one_ (i := 5) (N := some 58) #[true, true, true, true, true, true, false, true, true, true, false, false, false, false, false] rfl rfl (by kernel_rfl) (by decide) (fun K hK => ?_)
            refine slice_step (n := 2) (by rfl) (N := 58) rfl (cs := #[.int .i64 2, .int .i64 t403]) (t := 3) ?hr ?_
            case hr => first | (go_simp; done) | (go_simp; rfl)
            intro g468 hg w469 hbox hb
            replace HS : Aside0 (Sep (fps []) w [b1 g25 a21 a22 a23 a24, b2 g28 0 0 0 0 0 0 0 0, b2 g185 t182 (wrap64 (a22 - 8)) (wrap64 ((wrap64 (a22 - 8)) + 1)) t351 t378 t362 0 0, b3 g465 2 (wrap64 ((wrap64 (a22 - 8)) + 1)), b3 g468 2 t403] w469) := ⟨HS.out.box hg hbox hb⟩
            clear hg hbox hb
            refine hK.out _ _ (⟨blk_cellv (HS.out.at2) 4 rfl, blk_cellv (HS.out.at0) 3 rfl, blk_cellv (HS.out.at2) 2 rfl⟩) (fun hHeld => ?_)
            clear hK K
            refine norm_ (a' := ?_) ?_ ?_
            rotate_left
            · show Act.put _ (some 58) _ = _
              simp only [Act.put, List.setIfInBounds_toArray, List.set_cons_zero, List.set_cons_succ, i64_w, i32_w]
              rfl
            refine one_ (i := 6) (N := some 59) #[true, true, true, true, true, true, true, true, true, true, false, false, false, false, false] rfl rfl (by kernel_rfl) (by decide) (fun K hK => ?_)
            refine goes_ Tryd.func123 (by kernel_rfl) rfl #[.slice (some ⟨g468, 0, none⟩) 2 2] (by rfl) rfl rfl (by (try simp only [List.map_toArray, List.map_cons, List.map_nil]); first | done | rfl) ?_
            refine (ratio_Mul.calls _ [2, t403] (some ⟨g468, 0, none⟩) 2 t409 _ ⟨Rd.lit (l := []) (xs := [2, t403]) HS.out 4 rfl (by simp)⟩ ⟨HGl0.out.pass (l := []) HS.out⟩ ⟨Sep.start _⟩ HA410).mono ?_
            rintro e_ w472 ⟨rfl, hS⟩
            replace HS : Aside0 (Sep (fps []) w [b1 g25 a21 a22 a23 a24, b2 g28 0 0 0 0 0 0 0 0, b2 g185 t182 (wrap64 (a22 - 8)) (wrap64 ((wrap64 (a22 - 8)) + 1)) t351 t378 t362 0 0, b3 g465 2 (wrap64 ((wrap64 (a22 - 8)) + 1)), b3 g468 2 t403] w472) := ⟨HS.out.call hS⟩
            clear hS
            refine ⟨_, rfl, ?_⟩
            refine hK.out _ _ (⟨blk_cellv (HS.out.at2) 4 rfl, blk_cellv (HS.out.at0) 3 rfl, blk_cellv (HS.out.at2) 2 rfl⟩) (fun hHeld => ?_)
            clear hK K
            refine norm_ (a' := ?_) ?_ ?_
            rotate_left
            · show Act.put _ (some 59) _ = _
              simp only [Act.put, List.setIfInBounds_toArray, List.set_cons_zero, List.set_cons_succ, i64_w, i32_w]
              rfl
            refine one_ (i := 10) (N := some 63) #[true, true, true, true, true, true, true, true, true, true, true, false, false, false, false] rfl rfl (by kernel_rfl) (by decide) (fun K hK => ?_)
            refine goes_ Tryd.func123 (by kernel_rfl) rfl #[.slice (some ⟨g465, 0, none⟩) 2 2] (by rfl) rfl rfl (by (try simp only [List.map_toArray, List.map_cons, List.map_nil]); first | done | rfl) ?_
            refine (ratio_Mul.calls _ [2, wrap64 ((wrap64 (a22 - 8)) + 1)] (some ⟨g465, 0, none⟩) 2 t415 _ ⟨Rd.lit (l := []) (xs := [2, wrap64 ((wrap64 (a22 - 8)) + 1)]) HS.out 3 rfl (by simp)⟩ ⟨HGl0.out.pass (l := []) HS.out⟩ ⟨Sep.start _⟩ HA416).mono ?_
            rintro e_ w474 ⟨rfl, hS⟩
            replace HS : Aside0 (Sep (fps []) w [b1 g25 a21 a22 a23 a24, b2 g28 0 0 0 0 0 0 0 0, b2 g185 t182 (wrap64 (a22 - 8)) (wrap64 ((wrap64 (a22 - 8)) + 1)) t351 t378 t362 0 0, b3 g465 2 (wrap64 ((wrap64 (a22 - 8)) + 1)), b3 g468 2 t403] w474) := ⟨HS.out.call hS⟩
            clear hS
            refine ⟨_, rfl, ?_⟩
            refine hK.out _ _ (⟨blk_cellv (HS.out.at2) 4 rfl, blk_cellv (HS.out.at0) 3 rfl, blk_cellv (HS.out.at2) 2 rfl⟩) (fun hHeld => ?_)
            clear hK K
            refine norm_ (a' := ?_) ?_ ?_
            rotate_left
            · show Act.put _ (some 63) _ = _
              simp only [Act.put, List.setIfInBounds_toArray, List.set_cons_zero, List.set_cons_succ, i64_w, i32_w]
              rfl
            refine one_ (i := 11) (N := some 64) #[true, true, true, true, true, true, true, true, true, true, true, true, false, false, false] rfl rfl (by kernel_rfl) (by decide) (fun K hK => ?_)
            refine slice_step (n := 2) (by rfl) (N := 64) rfl (cs := #[.int .i64 t409, .int .i64 t415]) (t := 3) ?hr ?_
            case hr => first | (go_simp; done) | (go_simp; rfl)
            intro g475 hg w476 hbox hb
            replace HS : Aside0 (Sep (fps []) w [b1 g25 a21 a22 a23 a24, b2 g28 0 0 0 0 0 0 0 0, b2 g185 t182 (wrap64 (a22 - 8)) (wrap64 ((wrap64 (a22 - 8)) + 1)) t351 t378 t362 0 0, b3 g465 2 (wrap64 ((wrap64 (a22 - 8)) + 1)), b3 g468 2 t403, b3 g475 t409 t415] w476) := ⟨HS.out.box hg hbox hb⟩
            clear hg hbox hb
            refine hK.out _ _ (⟨blk_cellv (HS.out.at2) 4 rfl, blk_cellv (HS.out.at0) 3 rfl, blk_cellv (HS.out.at2) 2 rfl⟩) (fun hHeld => ?_)
            clear hK K
            refine norm_ (a' := ?_) ?_ ?_
            rotate_left
            · show Act.put _ (some 64) _ = _
              simp only [Act.put, List.setIfInBounds_toArray, List.set_cons_zero, List.set_cons_succ, i64_w, i32_w]
              rfl
            refine one_ (i := 12) (N := some 65) #[true, true, true, true, true, true, true, true, true, true, true, true, true, false, false] rfl rfl (by kernel_rfl) (by decide) (fun K hK => ?_)
            refine goes_ Tryd.func122 (by kernel_rfl) rfl #[.slice (some ⟨g475, 0, none⟩) 2 2] (by rfl) rfl rfl (by (try simp only [List.map_toArray, List.map_cons, List.map_nil]); first | done | rfl) ?_
            refine (ratio_Add.calls _ [t409, t415] (some ⟨g475, 0, none⟩) 2 t421 _ ⟨Rd.lit (l := []) (xs := [t409, t415]) HS.out 5 rfl (by simp)⟩ ⟨HGl0.out.pass (l := []) HS.out⟩ ⟨Sep.start _⟩ HA422).mono ?_
            rintro e_ w479 ⟨rfl, hS⟩
            replace HS : Aside0 (Sep (fps []) w [b1 g25 a21 a22 a23 a24, b2 g28 0 0 0 0 0 0 0 0, b2 g185 t182 (wrap64 (a22 - 8)) (wrap64 ((wrap64 (a22 - 8)) + 1)) t351 t378 t362 0 0, b3 g465 2 (wrap64 ((wrap64 (a22 - 8)) + 1)), b3 g468 2 t403, b3 g475 t409 t415] w479) := ⟨HS.out.call hS⟩
            clear hS
            refine ⟨_, rfl, ?_⟩
            refine hK.out _ _ (⟨blk_cellv (HS.out.at2) 4 rfl, blk_cellv (HS.out.at0) 3 rfl, blk_cellv (HS.out.at2) 2 rfl⟩) (fun hHeld => ?_)
            clear hK K
            refine norm_ (a' := ?_) ?_ ?_
            rotate_left
            · show Act.put _ (some 65) _ = _
              simp only [Act.put, List.setIfInBounds_toArray, List.set_cons_zero, List.set_cons_succ, i64_w, i32_w]
              rfl
            refine pure_ (i := 13) (N := some 66) (v := ?_) (a' := ?_) #[true, true, true, true, true, true, true, true, true, true, true, true, true, true, false] rfl rfl (by kernel_rfl) (fun _ _ _ h => h) (Or.inl ⟨by rfl, ?_⟩) ?_ ?_
            rotate_left
            · intro w'
              go_simp
              with_reducible rfl
            rotate_left
            · simp only [Act.put, List.setIfInBounds_toArray, List.set_cons_zero, List.set_cons_succ, i64_w, i32_w]
              rfl
            refine one_ (i := 14) (N := none) #[true, true, true, true, true, true, true, true, true, true, true, true, true, true, true] rfl rfl (by kernel_rfl) (by decide) (fun K hK => ?_)
            have hc481 := blk_cellv (v := .int .i64 0) (HS.out.at2) 6 rfl
            have hz482 := blk_fz (HS.out.at2) 6
            refine store_step (w1 := (World.setCell w479 ⟨g185, 6, none⟩ (.int .i64 t421))) (by rfl) rfl ?hr ?_
            case hr => first | (go_simp; done) | (go_simp; rfl)
            clear hc481 hz482
            intro w480 hst
            have hq0 : Sep (fps []) w [b1 g25 a21 a22 a23 a24, b2 g28 0 0 0 0 0 0 0 0, b2 g185 t182 (wrap64 (a22 - 8)) (wrap64 ((wrap64 (a22 - 8)) + 1)) t351 t378 t362 t421 0, b3 g465 2 (wrap64 ((wrap64 (a22 - 8)) + 1)), b3 g468 2 t403, b3 g475 t409 t415] (World.setCell w479 ⟨g185, 6, none⟩ (.int .i64 t421)) := (HS.out).set1 (l1 := [b1 g25 a21 a22 a23 a24, b2 g28 0 0 0 0 0 0 0 0]) (l2 := [b3 g465 2 (wrap64 ((wrap64 (a22 - 8)) + 1)), b3 g468 2 t403, b3 g475 t409 t415]) 6 (.int .i64 t421)
            have HS_ : Aside0 (Sep (fps []) w [b1 g25 a21 a22 a23 a24, b2 g28 0 0 0 0 0 0 0 0, b2 g185 t182 (wrap64 (a22 - 8)) (wrap64 ((wrap64 (a22 - 8)) + 1)) t351 t378 t362 t421 0, b3 g465 2 (wrap64 ((wrap64 (a22 - 8)) + 1)), b3 g468 2 t403, b3 g475 t409 t415] w480) := ⟨by rw [hst]; exact hq0⟩
            clear hq0
            clear HS hst
            have HS := HS_
            clear HS_
            refine hK.out _ _ (⟨blk_cellv (HS.out.at2) 4 rfl, blk_cellv (HS.out.at0) 3 rfl, blk_cellv (HS.out.at2) 2 rfl⟩) (fun hHeld => ?_)
            clear hK K
            refine done_ (by kernel_rfl) ?_
            go_wp2_with fail
            go_meet
            case rel => exact ⟨g468, g465, g475, ⟨((((((HS.out).front 5 (by simp)).front 4 (by simp)).front 5 (by simp)).front 5 (by simp)).front 5 (by simp)).front 5 (by simp)⟩⟩
        · refine slice_step (n := 2) (by rfl) (N := 62) rfl (cs := #[.int .i64 2, .int .i64 (wrap64 ((wrap64 (a22 - 8)) + 1))]) (t := 3) ?hr ?_
          case hr => first | (go_simp; done) | (go_simp; rfl)
          intro g483 hg w484 hbox hb
          replace HS : Aside0 (Sep (fps []) w [b1 g25 a21 a22 a23 a24, b2 g28 0 0 0 0 0 0 0 0, b2 g185 t182 (wrap64 (a22 - 8)) (wrap64 ((wrap64 (a22 - 8)) + 1)) t351 t378 t362 0 0, b3 g483 2 (wrap64 ((wrap64 (a22 - 8)) + 1))] w484) := ⟨HS.out.box hg hbox hb⟩
          clear hg hbox hb
          refine hK.out _ _ (⟨blk_cellv (HS.out.at2) 4 rfl, blk_cellv (HS.out.at0) 3 rfl, blk_cellv (HS.out.at2) 2 rfl⟩) (fun hHeld => ?_)
          clear hK K
          refine norm_ (a' := ?_) ?_ ?_
          rotate_left
          · show Act.put _ (some 62) _ = _
            simp only [Act.put, List.setIfInBounds_toArray, List.set_cons_zero, List.set_cons_succ, i64_w, i32_w]
            rfl
          refine one_ (i := 4) (N := some 57) #[true, true, true, true, true, false, false, true, true, true, false, false, false, false, false] rfl rfl (by kernel_rfl) (by decide) (fun K hK => ?_)
          refine goes_ Tryd.func124 (by kernel_rfl) rfl #[.int .i64 t378, .int .i64 a24] (by rfl) rfl rfl (by (try simp only [List.map_toArray, List.map_cons, List.map_nil]); first | done | rfl) ?_
          refine (ratio_Up.calls t378 a24 t403 _ ⟨HGl0.out.pass (l := []) HS.out⟩ ⟨Sep.start _⟩ HA404).mono ?_
          rintro e_ w487 ⟨rfl, hS⟩
          replace HS : Aside0 (Sep (fps []) w [b1 g25 a21 a22 a23 a24, b2 g28 0 0 0 0 0 0 0 0, b2 g185 t182 (wrap64 (a22 - 8)) (wrap64 ((wrap64 (a22 - 8)) + 1)) t351 t378 t362 0 0, b3 g483 2 (wrap64 ((wrap64 (a22 - 8)) + 1))] w487) := ⟨HS.out.call hS⟩
          clear hS
          refine ⟨_, rfl, ?_⟩
          refine hK.out _ _ (⟨blk_cellv (HS.out.at2) 4 rfl, blk_cellv (HS.out.at0) 3 rfl, blk_cellv (HS.out.at2) 2 rfl⟩) (fun hHeld => ?_)
          clear hK K
          refine norm_ (a' := ?_) ?_ ?_
          rotate_left
          · show Act.put _ (some 57) _ = _
            simp only [Act.put, List.setIfInBounds_toArray, List.set_cons_zero, List.set_cons_succ, i64_w, i32_w]
            rfl
          refine one_ (i := 5) (N := some 58) #[true, true, true, true, true, true, false, true, true, true, false, false, false, false, false] rfl rfl (by kernel_rfl) (by decide) (fun K hK => ?_)
          refine slice_step (n := 2) (by rfl) (N := 58) rfl (cs := #[.int .i64 2, .int .i64 t403]) (t := 3) ?hr ?_
          case hr => first | (go_simp; done) | (go_simp; rfl)
          intro g488 hg w489 hbox hb
          replace HS : Aside0 (Sep (fps []) w [b1 g25 a21 a22 a23 a24, b2 g28 0 0 0 0 0 0 0 0, b2 g185 t182 (wrap64 (a22 - 8)) (wrap64 ((wrap64 (a22 - 8)) + 1)) t351 t378 t362 0 0, b3 g483 2 (wrap64 ((wrap64 (a22 - 8)) + 1)), b3 g488 2 t403] w489) := ⟨HS.out.box hg hbox hb⟩
          clear hg hbox hb
          refine hK.out _ _ (⟨blk_cellv (HS.out.at2) 4 rfl, blk_cellv (HS.out.at0) 3 rfl, blk_cellv (HS.out.at2) 2 rfl⟩) (fun hHeld => ?_)
          clear hK K
          refine norm_ (a' := ?_) ?_ ?_
          rotate_left
          · show Act.put _ (some 58) _ = _
            simp only [Act.put, List.setIfInBounds_toArray, List.set_cons_zero, List.set_cons_succ, i64_w, i32_w]
            rfl
          refine one_ (i := 6) (N := some 59) #[true, true, true, true, true, true, true, true, true, true, false, false, false, false, false] rfl rfl (by kernel_rfl) (by decide) (fun K hK => ?_)
          refine goes_ Tryd.func123 (by kernel_rfl) rfl #[.slice (some ⟨g488, 0, none⟩) 2 2] (by rfl) rfl rfl (by (try simp only [List.map_toArray, List.map_cons, List.map_nil]); first | done | rfl) ?_
          refine (ratio_Mul.calls _ [2, t403] (some ⟨g488, 0, none⟩) 2 t409 _ ⟨Rd.lit (l := []) (xs := [2, t403]) HS.out 4 rfl (by simp)⟩ ⟨HGl0.out.pass (l := []) HS.out⟩ ⟨Sep.start _⟩ HA410).mono ?_
          rintro e_ w492 ⟨rfl, hS⟩
          replace HS : Aside0 (Sep (fps []) w [b1 g25 a21 a22 a23 a24, b2 g28 0 0 0 0 0 0 0 0, b2 g185 t182 (wrap64 (a22 - 8)) (wrap64 ((wrap64 (a22 - 8)) + 1)) t351 t378 t362 0 0, b3 g483 2 (wrap64 ((wrap64 (a22 - 8)) + 1)), b3 g488 2 t403] w492) := ⟨HS.out.call hS⟩
          clear hS
          refine ⟨_, rfl, ?_⟩
          refine hK.out _ _ (⟨blk_cellv (HS.out.at2) 4 rfl, blk_cellv (HS.out.at0) 3 rfl, blk_cellv (HS.out.at2) 2 rfl⟩) (fun hHeld => ?_)
          clear hK K
          refine norm_ (a' := ?_) ?_ ?_
          rotate_left
          · show Act.put _ (some 59) _ = _
            simp only [Act.put, List.setIfInBounds_toArray, List.set_cons_zero, List.set_cons_succ, i64_w, i32_w]
            rfl
          refine one_ (i := 10) (N := some 63) #[true, true, true, true, true, true, true, true, true, true, true, false, false, false, false] rfl rfl (by kernel_rfl) (by decide) (fun K hK => ?_)
          refine goes_ Tryd.func123 (by kernel_rfl) rfl #[.slice (some ⟨g483, 0, none⟩) 2 2] (by rfl) rfl rfl (by (try simp only [List.map_toArray, List.map_cons, List.map_nil]); first | done | rfl) ?_
          refine (ratio_Mul.calls _ [2, wrap64 ((wrap64 (a22 - 8)) + 1)] (some ⟨g483, 0, none⟩) 2 t415 _ ⟨Rd.lit (l := []) (xs := [2, wrap64 ((wrap64 (a22 - 8)) + 1)]) HS.out 3 rfl (by simp)⟩ ⟨HGl0.out.pass (l := []) HS.out⟩ ⟨Sep.start _⟩ HA416).mono ?_
          rintro e_ w494 ⟨rfl, hS⟩
          replace HS : Aside0 (Sep (fps []) w [b1 g25 a21 a22 a23 a24, b2 g28 0 0 0 0 0 0 0 0, b2 g185 t182 (wrap64 (a22 - 8)) (wrap64 ((wrap64 (a22 - 8)) + 1)) t351 t378 t362 0 0, b3 g483 2 (wrap64 ((wrap64 (a22 - 8)) + 1)), b3 g488 2 t403] w494) := ⟨HS.out.call hS⟩
          clear hS
          refine ⟨_, rfl, ?_⟩
          refine hK.out _ _ (⟨blk_cellv (HS.out.at2) 4 rfl, blk_cellv (HS.out.at0) 3 rfl, blk_cellv (HS.out.at2) 2 rfl⟩) (fun hHeld => ?_)
          clear hK K
          refine norm_ (a' := ?_) ?_ ?_
          rotate_left
          · show Act.put _ (some 63) _ = _
            simp only [Act.put, List.setIfInBounds_toArray, List.set_cons_zero, List.set_cons_succ, i64_w, i32_w]
            rfl
          refine one_ (i := 11) (N := some 64) #[true, true, true, true, true, true, true, true, true, true, true, true, false, false, false] rfl rfl (by kernel_rfl) (by decide) (fun K hK => ?_)
          refine slice_step (n := 2) (by rfl) (N := 64) rfl (cs := #[.int .i64 t409, .int .i64 t415]) (t := 3) ?hr ?_
          case hr => first | (go_simp; done) | (go_simp; rfl)
          intro g495 hg w496 hbox hb
          replace HS : Aside0 (Sep (fps []) w [b1 g25 a21 a22 a23 a24, b2 g28 0 0 0 0 0 0 0 0, b2 g185 t182 (wrap64 (a22 - 8)) (wrap64 ((wrap64 (a22 - 8)) + 1)) t351 t378 t362 0 0, b3 g483 2 (wrap64 ((wrap64 (a22 - 8)) + 1)), b3 g488 2 t403, b3 g495 t409 t415] w496) := ⟨HS.out.box hg hbox hb⟩
          clear hg hbox hb
          refine hK.out _ _ (⟨blk_cellv (HS.out.at2) 4 rfl, blk_cellv (HS.out.at0) 3 rfl, blk_cellv (HS.out.at2) 2 rfl⟩) (fun hHeld => ?_)
          clear hK K
          refine norm_ (a' := ?_) ?_ ?_
          rotate_left
          · show Act.put _ (some 64) _ = _
            simp only [Act.put, List.setIfInBounds_toArray, List.set_cons_zero, List.set_cons_succ, i64_w, i32_w]
            rfl
          refine one_ (i := 12) (N := some 65) #[true, true, true, true, true, true, true, true, true, true, true, true, true, false, false] rfl rfl (by kernel_rfl) (by decide) (fun K hK => ?_)
          refine goes_ Tryd.func122 (by kernel_rfl) rfl #[.slice (some ⟨g495, 0, none⟩) 2 2] (by rfl) rfl rfl (by (try simp only [List.map_toArray, List.map_cons, List.map_nil]); first | done | rfl) ?_
          refine (ratio_Add.calls _ [t409, t415] (some ⟨g495, 0, none⟩) 2 t421 _ ⟨Rd.lit (l := []) (xs := [t409, t415]) HS.out 5 rfl (by simp)⟩ ⟨HGl0.out.pass (l := []) HS.out⟩ ⟨Sep.start _⟩ HA422).mono ?_
          rintro e_ w499 ⟨rfl, hS⟩
          replace HS : Aside0 (Sep (fps []) w [b1 g25 a21 a22 a23 a24, b2 g28 0 0 0 0 0 0 0 0, b2 g185 t182 (wrap64 (a22 - 8)) (wrap64 ((wrap64 (a22 - 8)) + 1)) t351 t378 t362 0 0, b3 g483 2 (wrap64 ((wrap64 (a22 - 8)) + 1)), b3 g488 2 t403, b3 g495 t409 t415] w499) := ⟨HS.out.call hS⟩
          clear hS
          refine ⟨_, rfl, ?_⟩
          refine hK.out _ _ (⟨blk_cellv (HS.out.at2) 4 rfl, blk_cellv (HS.out.at0) 3 rfl, blk_cellv (HS.out.at2) 2 rfl⟩) (fun hHeld => ?_)
          clear hK K
          refine norm_ (a' := ?_) ?_ ?_
          rotate_left
          · show Act.put _ (some 65) _ = _
            simp only [Act.put, List.setIfInBounds_toArray, List.set_cons_zero, List.set_cons_succ, i64_w, i32_w]
            rfl
          refine pure_ (i := 13) (N := some 66) (v := ?_) (a' := ?_) #[true, true, true, true, true, true, true, true, true, true, true, true, true, true, false] rfl rfl (by kernel_rfl) (fun _ _ _ h => h) (Or.inl ⟨by rfl, ?_⟩) ?_ ?_
          rotate_left
          · intro w'
            go_simp
            with_reducible rfl
          rotate_left
          · simp only [Act.put, List.setIfInBounds_toArray, List.set_cons_zero, List.set_cons_succ, i64_w, i32_w]
            rfl
          refine one_ (i := 14) (N := none) #[true, true, true, true, true, true, true, true, true, true, true, true, true, true, true] rfl rfl (by kernel_rfl) (by decide) (fun K hK => ?_)
          have hc501 := blk_cellv (v := .int .i64 0) (HS.out.at2) 6 rfl
          have hz502 := blk_fz (HS.out.at2) 6
          refine store_step (w1 := (World.setCell w499 ⟨g185, 6, none⟩ (.int .i64 t421))) (by rfl) rfl ?hr ?_
          case hr => first | (go_simp; done) | (go_simp; rfl)
          clear hc501 hz502
          intro w500 hst
          have hq0 : Sep (fps []) w [b1 g25 a21 a22 a23 a24, b2 g28 0 0 0 0 0 0 0 0, b2 g185 t182 (wrap64 (a22 - 8)) (wrap64 ((wrap64 (a22 - 8)) + 1)) t351 t378 t362 t421 0, b3 g483 2 (wrap64 ((wrap64 (a22 - 8)) + 1)), b3 g488 2 t403, b3 g495 t409 t415] (World.setCell w499 ⟨g185, 6, none⟩ (.int .i64 t421)) := (HS.out).set1 (l1 := [b1 g25 a21 a22 a23 a24, b2 g28 0 0 0 0 0 0 0 0]) (l2 := [b3 g483 2 (wrap64 ((wrap64 (a22 - 8)) + 1)), b3 g488 2 t403, b3 g495 t409 t415]) 6 (.int .i64 t421)
          have HS_ : Aside0 (Sep (fps []) w [b1 g25 a21 a22 a23 a24, b2 g28 0 0 0 0 0 0 0 0, b2 g185 t182 (wrap64 (a22 - 8)) (wrap64 ((wrap64 (a22 - 8)) + 1)) t351 t378 t362 t421 0, b3 g483 2 (wrap64 ((wrap64 (a22 - 8)) + 1)), b3 g488 2 t403, b3 g495 t409 t415] w500) := ⟨by rw [hst]; exact hq0⟩
          clear hq0
          clear HS hst
          have HS := HS_
          clear HS_
          refine hK.out _ _ (⟨blk_cellv (HS.out.at2) 4 rfl, blk_cellv (HS.out.at0) 3 rfl, blk_cellv (HS.out.at2) 2 rfl⟩) (fun hHeld => ?_)
          clear hK K
          refine done_ (by kernel_rfl) ?_
          go_wp2_with fail
          go_meet
          case rel => exact ⟨g488, g483, g495, ⟨((((((HS.out).front 5 (by simp)).front 4 (by simp)).front 5 (by simp)).front 5 (by simp)).front 5 (by simp)).front 5 (by simp)⟩⟩
      case rest =>
        clear HS
        obtain ⟨g406, g412, g418, HS⟩ := hcut
        obtain ⟨w427, rfl⟩ : ∃ x : World, x = wc := ⟨_, rfl⟩
        replace HS : Aside0 (Sep (fps []) w [b1 g25 a21 a22 a23 a24, b2 g28 0 0 0 0 0 0 0 0, b2 g185 t182 (wrap64 (a22 - 8)) (wrap64 ((wrap64 (a22 - 8)) + 1)) t351 t378 t362 t421 0] w427) := ⟨HS.out.sub (.cons_cons _ (.cons_cons _ (.cons_cons _ (.cons _ (.cons _ (.cons _ .slnil))))))⟩
        go_wp2_with fail
        refine start_ (n := 15) (S := (fun w' => w'.cell? ⟨g185, 4, none⟩ = some (.int .i64 t378) ∧ w'.cell? ⟨g185, 5, none⟩ = some (.int .i64 t362) ∧ w'.cell? ⟨g25, 3, none⟩ = some (.int .i64 a24))) (ds := []) #[false, false, false, false, false, false, false, false, false, false, false, false, false, false, false] (by kernel_rfl) rfl rfl (⟨blk_cellv ((HS.out.drew).at2) 4 rfl, blk_cellv ((HS.out.drew).at2) 5 rfl, blk_cellv ((HS.out.drew).at0) 3 rfl⟩) (fun hHeld => ?_)
        have HS_ := Aside0.mk HS.out.drew
        clear HS
        generalize World.drew _ = w504 at HS_ hHeld ⊢
        have HS := HS_
        clear HS_
        refine pure_ (i := 0) (N := some 67) (v := ?_) (a' := ?_) #[true, false, false, false, false, false, false, false, false, false, false, false, false, false, false] rfl rfl (by kernel_rfl) (fun _ _ _ h => h) (Or.inl ⟨by rfl, ?_⟩) ?_ ?_
        rotate_left
        · intro w'
          go_simp
          with_reducible rfl
        rotate_left
        · simp only [Act.put, List.setIfInBounds_toArray, List.set_cons_zero, List.set_cons_succ, i64_w, i32_w]
          rfl
        refine pure_ (i := 2) (N := some 69) (v := ?_) (a' := ?_) #[true, false, true, false, false, false, false, false, false, false, false, false, false, false, false] rfl rfl (by kernel_rfl) (fun _ _ _ h => h) (Or.inl ⟨by rfl, ?_⟩) ?_ ?_
        rotate_left
        · intro w'
          go_simp
          with_reducible rfl
        rotate_left
        · simp only [Act.put, List.setIfInBounds_toArray, List.set_cons_zero, List.set_cons_succ, i64_w, i32_w]
          rfl
        refine pure_ (i := 4) (N := some 71) (v := ?_) (a' := ?_) #[true, false, true, false, true, false, false, false, false, false, false, false, false, false, false] rfl rfl (by kernel_rfl) (fun _ _ _ h => h) (Or.inl ⟨by rfl, ?_⟩) ?_ ?_
        rotate_left
        · intro w'
          go_simp
          with_reducible rfl
        rotate_left
        · simp only [Act.put, List.setIfInBounds_toArray, List.set_cons_zero, List.set_cons_succ, i64_w, i32_w]
          rfl
        refine pure_ (i := 8) (N := some 75) (v := ?_) (a' := ?_) #[true, false, true, false, true, false, false, false, true, false, false, false, false, false, false] rfl rfl (by kernel_rfl) (fun _ _ _ h => h) (Or.inl ⟨by rfl, ?_⟩) ?_ ?_
        rotate_left
        · intro w'
          go_simp
          with_reducible rfl
        rotate_left
        · simp only [Act.put, List.setIfInBounds_toArray, List.set_cons_zero, List.set_cons_succ, i64_w, i32_w]
          rfl
        refine take_ (i := 1) (N := some 68) (v := ?_) (a' := ?_) #[true, true, true, false, true, false, false, false, true, false, false, false, false, false, false] rfl rfl (by kernel_rfl) (fun _ _ _ h => h) (Or.inl ⟨by rfl, ?_⟩) hHeld ?_ ?_
        rotate_left
        · rintro w' hS'
          obtain ⟨s0, s1, s2⟩ := hS'
          go_simp
          with_reducible rfl
        rotate_left
        · simp only [Act.put, List.setIfInBounds_toArray, List.set_cons_zero, List.set_cons_succ, i64_w, i32_w]
          rfl
        refine take_ (i := 3) (N := some 70) (v := ?_) (a' := ?_) #[true, true, true, true, true, false, false, false, true, false, false, false, false, false, false] rfl rfl (by kernel_rfl) (fun _ _ _ h => h) (Or.inl ⟨by rfl, ?_⟩) hHeld ?_ ?_
        rotate_left
        · rintro w' hS'
          obtain ⟨s0, s1, s2⟩ := hS'
          go_simp
          with_reducible rfl
        rotate_left
        · simp only [Act.put, List.setIfInBounds_toArray, List.set_cons_zero, List.set_cons_succ, i64_w, i32_w]
          rfl
        refine take_ (i := 5) (N := some 72) (v := ?_) (a' := ?_) #[true, true, true, true, true, true, false, false, true, false, false, false, false, false, false] rfl rfl (by kernel_rfl) (fun _ _ _ h => h) (Or.inl ⟨by rfl, ?_⟩) hHeld ?_ ?_
        rotate_left
        · rintro w' hS'
          obtain ⟨s0, s1, s2⟩ := hS'
          go_simp
          with_reducible rfl
        rotate_left
        · simp only [Act.put, List.setIfInBounds_toArray, List.set_cons_zero, List.set_cons_succ, i64_w, i32_w]
          rfl
        refine take_ (i := 9) (N := some 76) (v := ?_) (a' := ?_) #[true, true, true, true, true, true, false, false, true, true, false, false, false, false, false] rfl rfl (by kernel_rfl) (fun _ _ _ h => h) (Or.inl ⟨by rfl, ?_⟩) hHeld ?_ ?_
        rotate_left
        · rintro w' hS'
          obtain ⟨s0, s1, s2⟩ := hS'
          go_simp
          with_reducible rfl
        rotate_left
        · simp only [Act.put, List.setIfInBounds_toArray, List.set_cons_zero, List.set_cons_succ, i64_w, i32_w]
          rfl
        refine one_ (i := 6) (N := some 73) #[true, true, true, true, true, true, true, false, true, true, false, false, false, false, false] rfl rfl (by kernel_rfl) (by decide) (fun K hK => ?_)
        refine slice_step (n := 3) (by rfl) (N := 73) rfl (cs := #[.int .i64 t378, .int .i64 t378, .int .i64 t362]) (t := 3) ?hr ?_
        case hr => first | (go_simp; done) | (go_simp; rfl)
        intro g505 hg w506 hbox hb
        replace HS : Aside0 (Sep (fps []) w [b1 g25 a21 a22 a23 a24, b2 g28 0 0 0 0 0 0 0 0, b2 g185 t182 (wrap64 (a22 - 8)) (wrap64 ((wrap64 (a22 - 8)) + 1)) t351 t378 t362 t421 0, b4 g505 t378 t378 t362] w506) := ⟨HS.out.box hg hbox hb⟩
        clear hg hbox hb
        refine hK.out _ _ (⟨blk_cellv (HS.out.at2) 4 rfl, blk_cellv (HS.out.at2) 5 rfl, blk_cellv (HS.out.at0) 3 rfl⟩) (fun hHeld => ?_)
        clear hK K
        refine norm_ (a' := ?_) ?_ ?_
        rotate_left
        · show Act.put _ (some 73) _ = _
          simp only [Act.put, List.setIfInBounds_toArray, List.set_cons_zero, List.set_cons_succ, i64_w, i32_w]
          rfl
        refine one_ (i := 7) (N := some 74) #[true, true, true, true, true, true, true, true, true, true, false, false, false, false, false] rfl rfl (by kernel_rfl) (by decide) (fun K hK => ?_)
        obtain ⟨t508, HA509, H⟩ := bind_some H
        refine goes_ Tryd.func122 (by kernel_rfl) rfl #[.slice (some ⟨g505, 0, none⟩) 3 3] (by rfl) rfl rfl (by (try simp only [List.map_toArray, List.map_cons, List.map_nil]); first | done | rfl) ?_
        refine (ratio_Add.calls _ [t378, t378, t362] (some ⟨g505, 0, none⟩) 3 t508 _ ⟨Rd.lit (l := []) (xs := [t378, t378, t362]) HS.out 3 rfl (by simp)⟩ ⟨HGl0.out.pass (l := []) HS.out⟩ ⟨Sep.start _⟩ HA509).mono ?_
        rintro e_ w510 ⟨rfl, hS⟩
        replace HS : Aside0 (Sep (fps []) w [b1 g25 a21 a22 a23 a24, b2 g28 0 0 0 0 0 0 0 0, b2 g185 t182 (wrap64 (a22 - 8)) (wrap64 ((wrap64 (a22 - 8)) + 1)) t351 t378 t362 t421 0, b4 g505 t378 t378 t362] w510) := ⟨HS.out.call hS⟩
        clear hS
        refine ⟨_, rfl, ?_⟩
        refine hK.out _ _ (⟨blk_cellv (HS.out.at2) 4 rfl, blk_cellv (HS.out.at2) 5 rfl, blk_cellv (HS.out.at0) 3 rfl⟩) (fun hHeld => ?_)
        clear hK K
        refine norm_ (a' := ?_) ?_ ?_
        rotate_left
        · show Act.put _ (some 74) _ = _
          simp only [Act.put, List.setIfInBounds_toArray, List.set_cons_zero, List.set_cons_succ, i64_w, i32_w]
          rfl
        refine one_ (i := 10) (N := some 77) #[true, true, true, true, true, true, true, true, true, true, true, false, false, false, false] rfl rfl (by kernel_rfl) (by decide) (fun K hK => ?_)
        obtain ⟨t511, HA512, H⟩ := bind_some H
        refine goes_ Tryd.func124 (by kernel_rfl) rfl #[.int .i64 t508, .int .i64 a24] (by rfl) rfl rfl (by (try simp only [List.map_toArray, List.map_cons, List.map_nil]); first | done | rfl) ?_
        refine (ratio_Up.calls t508 a24 t511 _ ⟨HGl0.out.pass (l := []) HS.out⟩ ⟨Sep.start _⟩ HA512).mono ?_
        rintro e_ w513 ⟨rfl, hS⟩
        replace HS : Aside0 (Sep (fps []) w [b1 g25 a21 a22 a23 a24, b2 g28 0 0 0 0 0 0 0 0, b2 g185 t182 (wrap64 (a22 - 8)) (wrap64 ((wrap64 (a22 - 8)) + 1)) t351 t378 t362 t421 0, b4 g505 t378 t378 t362] w513) := ⟨HS.out.call hS⟩
        clear hS
        refine ⟨_, rfl, ?_⟩
        refine hK.out _ _ (⟨blk_cellv (HS.out.at2) 4 rfl, blk_cellv (HS.out.at2) 5 rfl, blk_cellv (HS.out.at0) 3 rfl⟩) (fun hHeld => ?_)
        clear hK K
        refine norm_ (a' := ?_) ?_ ?_
        rotate_left
        · show Act.put _ (some 77) _ = _
          simp only [Act.put, List.setIfInBounds_toArray, List.set_cons_zero, List.set_cons_succ, i64_w, i32_w]
          rfl
        refine one_ (i := 11) (N := some 78) #[true, true, true, true, true, true, true, true, true, true, true, true, false, false, false] rfl rfl (by kernel_rfl) (by decide) (fun K hK => ?_)
        refine slice_step (n := 2) (by rfl) (N := 78) rfl (cs := #[.int .i64 t511, .int .i64 2]) (t := 3) ?hr ?_
        case hr => first | (go_simp; done) | (go_simp; rfl)
        intro g514 hg w515 hbox hb
        replace HS : Aside0 (Sep (fps []) w [b1 g25 a21 a22 a23 a24, b2 g28 0 0 0 0 0 0 0 0, b2 g185 t182 (wrap64 (a22 - 8)) (wrap64 ((wrap64 (a22 - 8)) + 1)) t351 t378 t362 t421 0, b4 g505 t378 t378 t362, b3 g514 t511 2] w515) := ⟨HS.out.box hg hbox hb⟩
        clear hg hbox hb
        refine hK.out _ _ (⟨blk_cellv (HS.out.at2) 4 rfl, blk_cellv (HS.out.at2) 5 rfl, blk_cellv (HS.out.at0) 3 rfl⟩) (fun hHeld => ?_)
        clear hK K
        refine norm_ (a' := ?_) ?_ ?_
        rotate_left
        · show Act.put _ (some 78) _ = _
          simp only [Act.put, List.setIfInBounds_toArray, List.set_cons_zero, List.set_cons_succ, i64_w, i32_w]
          rfl
        refine one_ (i := 12) (N := some 79) #[true, true, true, true, true, true, true, true, true, true, true, true, true, false, false] rfl rfl (by kernel_rfl) (by decide) (fun K hK => ?_)
        obtain ⟨t517, HA518, H⟩ := bind_some H
        refine goes_ Tryd.func122 (by kernel_rfl) rfl #[.slice (some ⟨g514, 0, none⟩) 2 2] (by rfl) rfl rfl (by (try simp only [List.map_toArray, List.map_cons, List.map_nil]); first | done | rfl) ?_
        refine (ratio_Add.calls _ [t511, 2] (some ⟨g514, 0, none⟩) 2 t517 _ ⟨Rd.lit (l := []) (xs := [t511, 2]) HS.out 4 rfl (by simp)⟩ ⟨HGl0.out.pass (l := []) HS.out⟩ ⟨Sep.start _⟩ HA518).mono ?_
        rintro e_ w519 ⟨rfl, hS⟩
        replace HS : Aside0 (Sep (fps []) w [b1 g25 a21 a22 a23 a24, b2 g28 0 0 0 0 0 0 0 0, b2 g185 t182 (wrap64 (a22 - 8)) (wrap64 ((wrap64 (a22 - 8)) + 1)) t351 t378 t362 t421 0, b4 g505 t378 t378 t362, b3 g514 t511 2] w519) := ⟨HS.out.call hS⟩
        clear hS
        refine ⟨_, rfl, ?_⟩
        refine hK.out _ _ (⟨blk_cellv (HS.out.at2) 4 rfl, blk_cellv (HS.out.at2) 5 rfl, blk_cellv (HS.out.at0) 3 rfl⟩) (fun hHeld => ?_)
        clear hK K
        refine norm_ (a' := ?_) ?_ ?_
        rotate_left
        · show Act.put _ (some 79) _ = _
          simp only [Act.put, List.setIfInBounds_toArray, List.set_cons_zero, List.set_cons_succ, i64_w, i32_w]
          rfl
        refine pure_ (i := 13) (N := some 80) (v := ?_) (a' := ?_) #[true, true, true, true, true, true, true, true, true, true, true, true, true, true, false] rfl rfl (by kernel_rfl) (fun _ _ _ h => h) (Or.inl ⟨by rfl, ?_⟩) ?_ ?_
        rotate_left
        · intro w'
          go_simp
          with_reducible rfl
        rotate_left
        · simp only [Act.put, List.setIfInBounds_toArray, List.set_cons_zero, List.set_cons_succ, i64_w, i32_w]
          rfl
        refine one_ (i := 14) (N := none) #[true, true, true, true, true, true, true, true, true, true, true, true, true, true, true] rfl rfl (by kernel_rfl) (by decide) (fun K hK => ?_)
        have hc521 := blk_cellv (v := .int .i64 0) (HS.out.at2) 7 rfl
        have hz522 := blk_fz (HS.out.at2) 7
        refine store_step (w1 := (World.setCell w519 ⟨g185, 7, none⟩ (.int .i64 t517))) (by rfl) rfl ?hr ?_
        case hr => first | (go_simp; done) | (go_simp; rfl)
        clear hc521 hz522
        intro w520 hst
        have hq0 : Sep (fps []) w [b1 g25 a21 a22 a23 a24, b2 g28 0 0 0 0 0 0 0 0, b2 g185 t182 (wrap64 (a22 - 8)) (wrap64 ((wrap64 (a22 - 8)) + 1)) t351 t378 t362 t421 t517, b4 g505 t378 t378 t362, b3 g514 t511 2] (World.setCell w519 ⟨g185, 7, none⟩ (.int .i64 t517)) := (HS.out).set1 (l1 := [b1 g25 a21 a22 a23 a24, b2 g28 0 0 0 0 0 0 0 0]) (l2 := [b4 g505 t378 t378 t362, b3 g514 t511 2]) 7 (.int .i64 t517)
        have HS_ : Aside0 (Sep (fps []) w [b1 g25 a21 a22 a23 a24, b2 g28 0 0 0 0 0 0 0 0, b2 g185 t182 (wrap64 (a22 - 8)) (wrap64 ((wrap64 (a22 - 8)) + 1)) t351 t378 t362 t421 t517, b4 g505 t378 t378 t362, b3 g514 t511 2] w520) := ⟨by rw [hst]; exact hq0⟩
        clear hq0
        clear HS hst
        have HS := HS_
        clear HS_
        refine hK.out _ _ (⟨blk_cellv (HS.out.at2) 4 rfl, blk_cellv (HS.out.at2) 5 rfl, blk_cellv (HS.out.at0) 3 rfl⟩) (fun hHeld => ?_)
        clear hK K
        refine done_ (by kernel_rfl) ?_
        replace HS : Aside0 (Sep (fps []) w [b2 g28 0 0 0 0 0 0 0 0, b2 g185 t182 (wrap64 (a22 - 8)) (wrap64 ((wrap64 (a22 - 8)) + 1)) t351 t378 t362 t421 t517] w520) := ⟨HS.out.sub (.cons _ (.cons_cons _ (.cons_cons _ (.cons _ (.cons _ .slnil)))))⟩
        have hc523 : w520.cell? ⟨g185, 0, none⟩ = some (.int .i64 t182) := blk_cellv (HS.out.at1) 0 rfl
        have hc524 : w520.cell? ⟨g185, 1, none⟩ = some (.int .i64 (wrap64 (a22 - 8))) := blk_cellv (HS.out.at1) 1 rfl
        have hc525 : w520.cell? ⟨g185, 2, none⟩ = some (.int .i64 (wrap64 ((wrap64 (a22 - 8)) + 1))) := blk_cellv (HS.out.at1) 2 rfl
        have hc526 : w520.cell? ⟨g185, 3, none⟩ = some (.int .i64 t351) := blk_cellv (HS.out.at1) 3 rfl
        have hc527 : w520.cell? ⟨g185, 4, none⟩ = some (.int .i64 t378) := blk_cellv (HS.out.at1) 4 rfl
        have hc528 : w520.cell? ⟨g185, 5, none⟩ = some (.int .i64 t362) := blk_cellv (HS.out.at1) 5 rfl
        have hc529 : w520.cell? ⟨g185, 6, none⟩ = some (.int .i64 t421) := blk_cellv (HS.out.at1) 6 rfl
        have hc530 : w520.cell? ⟨g185, 7, none⟩ = some (.int .i64 t517) := blk_cellv (HS.out.at1) 7 rfl
        have hc531 : w520.cell? ⟨g28, 0, none⟩ = some (.int .i64 0) := blk_cellv (HS.out.at0) 0 rfl
        have hz532 : w520.frozen? ⟨g28, 0, none⟩ = false := blk_fz (HS.out.at0) 0
        have hc533 : w520.cell? ⟨g28, 1, none⟩ = some (.int .i64 0) := blk_cellv (HS.out.at0) 1 rfl
        have hz534 : w520.frozen? ⟨g28, 1, none⟩ = false := blk_fz (HS.out.at0) 1
        have hc535 : w520.cell? ⟨g28, 2, none⟩ = some (.int .i64 0) := blk_cellv (HS.out.at0) 2 rfl
        have hz536 : w520.frozen? ⟨g28, 2, none⟩ = false := blk_fz (HS.out.at0) 2
        have hc537 : w520.cell? ⟨g28, 3, none⟩ = some (.int .i64 0) := blk_cellv (HS.out.at0) 3 rfl
        have hz538 : w520.frozen? ⟨g28, 3, none⟩ = false := blk_fz (HS.out.at0) 3
        have hc539 : w520.cell? ⟨g28, 4, none⟩ = some (.int .i64 0) := blk_cellv (HS.out.at0) 4 rfl
        have hz540 : w520.frozen? ⟨g28, 4, none⟩ = false := blk_fz (HS.out.at0) 4
        have hc541 : w520.cell? ⟨g28, 5, none⟩ = some (.int .i64 0) := blk_cellv (HS.out.at0) 5 rfl
        have hz542 : w520.frozen? ⟨g28, 5, none⟩ = false := blk_fz (HS.out.at0) 5
        have hc543 : w520.cell? ⟨g28, 6, none⟩ = some (.int .i64 0) := blk_cellv (HS.out.at0) 6 rfl
        have hz544 : w520.frozen? ⟨g28, 6, none⟩ = false := blk_fz (HS.out.at0) 6
        have hc545 : w520.cell? ⟨g28, 7, none⟩ = some (.int .i64 0) := blk_cellv (HS.out.at0) 7 rfl
        have hz546 : w520.frozen? ⟨g28, 7, none⟩ = false := blk_fz (HS.out.at0) 7
        go_wp2_with (first | ((with_reducible refine gate_store (t := 97) (p := 2) rfl ?_); refine store_event (w1 := (World.setCell (World.setCell (World.setCell (World.setCell (World.setCell (World.setCell (World.setCell (World.setCell w520 ⟨g28, 0, none⟩ (.int .i64 t182)) ⟨g28, 1, none⟩ (.int .i64 (wrap64 (a22 - 8)))) ⟨g28, 2, none⟩ (.int .i64 (wrap64 ((wrap64 (a22 - 8)) + 1)))) ⟨g28, 3, none⟩ (.int .i64 t351)) ⟨g28, 4, none⟩ (.int .i64 t378)) ⟨g28, 5, none⟩ (.int .i64 t362)) ⟨g28, 6, none⟩ (.int .i64 t421)) ⟨g28, 7, none⟩ (.int .i64 t517))) rfl (t := 97) (p := 2) rfl rfl ?hr ?_; (case hr => first | (go_simp; done) | (go_simp; rfl)); intro w547 hst; clear hc523 hc524 hc525 hc526 hc527 hc528 hc529 hc530 hc531 hz532 hc533 hz534 hc535 hz536 hc537 hz538 hc539 hz540 hc541 hz542 hc543 hz544 hc545 hz546; replace HS : Aside0 (Sep (fps []) w [b2 g28 t182 (wrap64 (a22 - 8)) (wrap64 ((wrap64 (a22 - 8)) + 1)) t351 t378 t362 t421 t517, b2 g185 t182 (wrap64 (a22 - 8)) (wrap64 ((wrap64 (a22 - 8)) + 1)) t351 t378 t362 t421 t517] w547) := ⟨by rw [hst]; exact HS.out.setAll (l1 := []) (l2 := [b2 g185 t182 (wrap64 (a22 - 8)) (wrap64 ((wrap64 (a22 - 8)) + 1)) t351 t378 t362 t421 t517]) [.int .i64 t182, .int .i64 (wrap64 (a22 - 8)), .int .i64 (wrap64 ((wrap64 (a22 - 8)) + 1)), .int .i64 t351, .int .i64 t378, .int .i64 t362, .int .i64 t421, .int .i64 t517] rfl⟩; clear hst; replace HS : Aside0 (Sep (fps []) w [b2 g28 t182 (wrap64 (a22 - 8)) (wrap64 ((wrap64 (a22 - 8)) + 1)) t351 t378 t362 t421 t517] w547) := ⟨HS.out.sub (.cons_cons _ (.cons _ .slnil))⟩))
        have hc548 : w547.cell? ⟨g28, 0, none⟩ = some (.int .i64 t182) := blk_cellv (HS.out.at0) 0 rfl
        have hc549 : w547.cell? ⟨g28, 1, none⟩ = some (.int .i64 (wrap64 (a22 - 8))) := blk_cellv (HS.out.at0) 1 rfl
        have hc550 : w547.cell? ⟨g28, 2, none⟩ = some (.int .i64 (wrap64 ((wrap64 (a22 - 8)) + 1))) := blk_cellv (HS.out.at0) 2 rfl
        have hc551 : w547.cell? ⟨g28, 3, none⟩ = some (.int .i64 t351) := blk_cellv (HS.out.at0) 3 rfl
        have hc552 : w547.cell? ⟨g28, 4, none⟩ = some (.int .i64 t378) := blk_cellv (HS.out.at0) 4 rfl
        have hc553 : w547.cell? ⟨g28, 5, none⟩ = some (.int .i64 t362) := blk_cellv (HS.out.at0) 5 rfl
        have hc554 : w547.cell? ⟨g28, 6, none⟩ = some (.int .i64 t421) := blk_cellv (HS.out.at0) 6 rfl
        have hc555 : w547.cell? ⟨g28, 7, none⟩ = some (.int .i64 t517) := blk_cellv (HS.out.at0) 7 rfl
        refine bodyPost_ret (v := .tuple #[.agg #[.int .i64 t182, .int .i64 (wrap64 (a22 - 8)), .int .i64 (wrap64 ((wrap64 (a22 - 8)) + 1)), .int .i64 t351, .int .i64 t378, .int .i64 t362, .int .i64 t421, .int .i64 t517], .int .i64 0]) (by simp [results, Tryd.results65, go_sem, hc548, hc549, hc550, hc551, hc552, hc553, hc554, hc555]) rfl ?_
        rw [← some_eq H]
        exact ⟨(by first | rfl | (simp [IntKind.wrap_u32]; done)), HS.out.sub (.cons _ .slnil)⟩
  · replace H := if_no c79 H
    have c79b0 : (t76 == 0) = false := beq_eq_false_iff_ne.mpr c79
    have c79b1 : (t76 != 0) = true := bne_iff_ne.mpr c79
    clear c79
    have hc556 : w78.cell? ⟨g28, 0, none⟩ = some (.int .i64 0) := blk_cellv (HS.out.at1) 0 rfl
    have hz557 : w78.frozen? ⟨g28, 0, none⟩ = false := blk_fz (HS.out.at1) 0
    have hc558 : w78.cell? ⟨g28, 1, none⟩ = some (.int .i64 0) := blk_cellv (HS.out.at1) 1 rfl
    have hz559 : w78.frozen? ⟨g28, 1, none⟩ = false := blk_fz (HS.out.at1) 1
    have hc560 : w78.cell? ⟨g28, 2, none⟩ = some (.int .i64 0) := blk_cellv (HS.out.at1) 2 rfl
    have hz561 : w78.frozen? ⟨g28, 2, none⟩ = false := blk_fz (HS.out.at1) 2
    have hc562 : w78.cell? ⟨g28, 3, none⟩ = some (.int .i64 0) := blk_cellv (HS.out.at1) 3 rfl
    have hz563 : w78.frozen? ⟨g28, 3, none⟩ = false := blk_fz (HS.out.at1) 3
    have hc564 : w78.cell? ⟨g28, 4, none⟩ = some (.int .i64 0) := blk_cellv (HS.out.at1) 4 rfl
    have hz565 : w78.frozen? ⟨g28, 4, none⟩ = false := blk_fz (HS.out.at1) 4
    have hc566 : w78.cell? ⟨g28, 5, none⟩ = some (.int .i64 0) := blk_cellv (HS.out.at1) 5 rfl
    have hz567 : w78.frozen? ⟨g28, 5, none⟩ = false := blk_fz (HS.out.at1) 5
    have hc568 : w78.cell? ⟨g28, 6, none⟩ = some (.int .i64 0) := blk_cellv (HS.out.at1) 6 rfl
    have hz569 : w78.frozen? ⟨g28, 6, none⟩ = false := blk_fz (HS.out.at1) 6
    have hc570 : w78.cell? ⟨g28, 7, none⟩ = some (.int .i64 0) := blk_cellv (HS.out.at1) 7 rfl
    have hz571 : w78.frozen? ⟨g28, 7, none⟩ = false := blk_fz (HS.out.at1) 7
    go_wp2_with (first | ((with_reducible refine gate_store (t := 97) (p := 2) rfl ?_); refine store_event (w1 := (World.setCell (World.setCell (World.setCell (World.setCell (World.setCell (World.setCell (World.setCell (World.setCell w78 ⟨g28, 0, none⟩ (.int .i64 0)) ⟨g28, 1, none⟩ (.int .i64 0)) ⟨g28, 2, none⟩ (.int .i64 0)) ⟨g28, 3, none⟩ (.int .i64 0)) ⟨g28, 4, none⟩ (.int .i64 0)) ⟨g28, 5, none⟩ (.int .i64 0)) ⟨g28, 6, none⟩ (.int .i64 0)) ⟨g28, 7, none⟩ (.int .i64 0))) rfl (t := 97) (p := 2) rfl rfl ?hr ?_; (case hr => first | (go_simp; done) | (go_simp; rfl)); intro w572 hst; clear hc556 hz557 hc558 hz559 hc560 hz561 hc562 hz563 hc564 hz565 hc566 hz567 hc568 hz569 hc570 hz571; replace HS : Aside0 (Sep (fps []) w [b1 g25 a21 a22 a23 a24, b2 g28 0 0 0 0 0 0 0 0] w572) := ⟨by rw [hst]; exact HS.out.setAll (l1 := [b1 g25 a21 a22 a23 a24]) (l2 := []) [.int .i64 0, .int .i64 0, .int .i64 0, .int .i64 0, .int .i64 0, .int .i64 0, .int .i64 0, .int .i64 0] rfl⟩; clear hst; replace HS : Aside0 (Sep (fps []) w [b2 g28 0 0 0 0 0 0 0 0] w572) := ⟨HS.out.sub (.cons _ (.cons_cons _ .slnil))⟩))
    have hc573 : w572.cell? ⟨g28, 0, none⟩ = some (.int .i64 0) := blk_cellv (HS.out.at0) 0 rfl
    have hc574 : w572.cell? ⟨g28, 1, none⟩ = some (.int .i64 0) := blk_cellv (HS.out.at0) 1 rfl
    have hc575 : w572.cell? ⟨g28, 2, none⟩ = some (.int .i64 0) := blk_cellv (HS.out.at0) 2 rfl
    have hc576 : w572.cell? ⟨g28, 3, none⟩ = some (.int .i64 0) := blk_cellv (HS.out.at0) 3 rfl
    have hc577 : w572.cell? ⟨g28, 4, none⟩ = some (.int .i64 0) := blk_cellv (HS.out.at0) 4 rfl
    have hc578 : w572.cell? ⟨g28, 5, none⟩ = some (.int .i64 0) := blk_cellv (HS.out.at0) 5 rfl
    have hc579 : w572.cell? ⟨g28, 6, none⟩ = some (.int .i64 0) := blk_cellv (HS.out.at0) 6 rfl
    have hc580 : w572.cell? ⟨g28, 7, none⟩ = some (.int .i64 0) := blk_cellv (HS.out.at0) 7 rfl
    refine bodyPost_ret (v := .tuple #[.agg #[.int .i64 0, .int .i64 0, .int .i64 0, .int .i64 0, .int .i64 0, .int .i64 0, .int .i64 0, .int .i64 0], .int .i64 t76]) (by simp [results, Tryd.results65, go_sem, hc573, hc574, hc575, hc576, hc577, hc578, hc579, hc580]) rfl ?_
    rw [← some_eq H]
    exact ⟨(by first | rfl | (simp [IntKind.wrap_u32]; done)), HS.out.sub (.cons _ .slnil)⟩

set_option maxHeartbeats 30000000 in
set_option maxRecDepth 100000 in
theorem store_New.calls (a606 : Int) (r : Unit ⊕ (List Int)) (w : World)  (HGl0 : Aside0 (Gl 0 #[.int .i64 0, .int .i64 0, .int .i64 0, .int .i64 0, .int .i64 0] (fps []) w)) (HS : Aside0 (Sep (fps []) w [] w)) (H : Aside0 (store_New.f a606 = some r)) :
    Calls Tryd.prog 66 #[.int .i64 a606] w fun e w' => Sum.elim (fun (r : Unit) => e = .returned (.tuple #[.pointer none, .int .i64 2]) ∧ Sep (fps []) w [] w') (fun (r : List Int) => ∃ (g642 : Nat), e = .returned (.tuple #[.pointer (some ⟨g642, 0, none⟩), .int .i64 0]) ∧ ∃ (A643 : Option Addr) (m644 : Nat) (n645 : Nat), Sep (fps []) w [b6 g642 A643 m644 n645 0, r5 A643 m644 n645 r] w') r := by
  unfold store_New.f at H
  go_enter Tryd.func66, Tryd.ntmps66
  by_cases c620 : a606 < 0
  · replace H := if_yes c620 H
    have c620b0 : decide (a606 < 0) = true := decide_eq_true c620
    clear c620
    go_wp2_with fail
    go_ret2
    rw [← some_eq H]
    exact ⟨(by first | rfl | (simp [IntKind.wrap_u32]; done)), HS.out⟩
  · replace H := if_no c620 H
    have c620b0 : decide (a606 < 0) = false := decide_eq_false c620
    clear c620
    by_cases c621 : a606 > 8388608
    · replace H := if_yes c621 H
      have c621b0 : decide (8388608 < a606) = true := decide_eq_true c621
      clear c621
      go_wp2_with fail
      go_ret2
      rw [← some_eq H]
      exact ⟨(by first | rfl | (simp [IntKind.wrap_u32]; done)), HS.out⟩
    · replace H := if_no c621 H
      have c621b0 : decide (8388608 < a606) = false := decide_eq_false c621
      clear c621
      obtain ⟨m622, HA623, H⟩ := bind_some H
      obtain ⟨hm624, hn625⟩ := mkLen_eq HA623
      have hm624H := Aside0.mk hm624
      clear hm624
      go_wp2_with (first | ((with_reducible refine gate_dst (N := 11) rfl ?_); refine make_event rfl (N := 11) rfl 69 33 (.tmp 10) (.tmp 10) rfl .i64 (.int .u32 0) 4 Tryd.underlying69 (by kernel_rfl) rfl (by decide) (Value.int .u32) 0 rfl m622 (by show Value.int _ _ = _; rw [hm624H.out]) (by show Value.int _ _ = _; rw [hm624H.out]) (by omega) HS.out ?_; intro g626 w627 HS1; replace HS : Aside0 (Sep (fps []) w [r5 (some ⟨g626, 0, none⟩) m622 m622 (List.replicate m622 (0 : Int))] w627) := ⟨HS1⟩; clear HS1) | ((with_reducible refine gate_dst (N := 13) rfl ?_); refine box_on ?hg (N := 13) ?hd (cs := #[.slice (some ⟨g626, 0, none⟩) m622 m622, .int .u64 0]) (t := 154) ?hr ?_; (case hd => rfl); (case hg => rfl); (case hr => first | (go_simp; done) | (go_simp; rfl)); intro g630 hg w631 hbox hb; replace HS : Aside0 (Sep (fps []) w [r5 (some ⟨g626, 0, none⟩) m622 m622 (List.replicate m622 (0 : Int)), b6 g630 (some ⟨g626, 0, none⟩) m622 m622 0] w631) := ⟨HS.out.box hg hbox hb⟩; clear hg hbox hb))
      go_ret2
      rw [← some_eq H]
      exact ⟨g630, (by first | rfl | (simp [IntKind.wrap_u32]; done)), (some ⟨g626, 0, none⟩), m622, m622, ((HS.out).front 1 (by simp)).keep (l := [b6 g630 (some ⟨g626, 0, none⟩) m622 m622 0, r5 (some ⟨g626, 0, none⟩) m622 m622 (List.replicate m622 (0 : Int))]) (rest := [])⟩

set_option maxHeartbeats 30000000 in
set_option maxRecDepth 100000 in
theorem ground_New.calls (k : Nat) (a10 : Int) (a11 : Int) (a12 : Int) (a13 : Int) (r : Unit ⊕ ((Int × Int × Int × Int × List Int) ⊕ Int)) (w : World)  (HGl0 : Aside0 (Gl 0 #[.int .i64 0, .int .i64 0, .int .i64 0, .int .i64 0, .int .i64 0] (fps []) w)) (HS : Aside0 (Sep (fps []) w [] w)) (H : Aside0 (ground_New.f k a10 a11 a12 a13 = some r)) :
    Calls Tryd.prog 15 #[.agg #[.int .i64 a10, .int .i64 a11, .int .i64 a12, .int .i64 a13]] w fun e w' => Sum.elim (fun (r : Unit) => e = .returned (.tuple #[.pointer none, .int .i64 2]) ∧ Sep (fps []) w [] w') (fun (r_ : (Int × Int × Int × Int × List Int) ⊕ Int) => Sum.elim (fun (r : Int × Int × Int × Int × List Int) => ∃ (g792 : Nat), e = .returned (.tuple #[.pointer (some ⟨g792, 0, none⟩), .int .i64 0]) ∧ ∃ (g793 : Nat) (A794 : Option Addr) (m795 : Nat) (n796 : Nat), Sep (fps []) w [b7 g792 g793 r.1 r.2.1 r.2.2.1 r.2.2.2.1, b6 g793 A794 m795 n796 0, r5 A794 m795 n796 r.2.2.2.2] w') (fun (r : Int) => e = .returned (.tuple #[.pointer none, .int .i64 r]) ∧ Sep (fps []) w [] w') r_) r := by
  unfold ground_New.f at H
  go_enter Tryd.func15, Tryd.ntmps15
  go_wp2_with (first | ((with_reducible refine gate_dst (N := 1) rfl ?_); refine box_on ?hg (N := 1) ?hd (cs := #[.int .i64 a10, .int .i64 a11, .int .i64 a12, .int .i64 a13]) (t := 30) ?hr ?_; (case hd => rfl); (case hg => rfl); (case hr => first | (go_simp; done) | (go_simp; rfl)); intro g728 hg w729 hbox hb; replace HS : Aside0 (Sep (fps []) w [b1 g728 a10 a11 a12 a13] w729) := ⟨HS.out.box hg hbox hb⟩; clear hg hbox hb; have hc731 : w729.cell? ⟨g728, 0, none⟩ = some (.int .i64 a10) := blk_cellv (HS.out.at0) 0 rfl; have hc732 : w729.cell? ⟨g728, 1, none⟩ = some (.int .i64 a11) := blk_cellv (HS.out.at0) 1 rfl; have hc733 : w729.cell? ⟨g728, 2, none⟩ = some (.int .i64 a12) := blk_cellv (HS.out.at0) 2 rfl; have hc734 : w729.cell? ⟨g728, 3, none⟩ = some (.int .i64 a13) := blk_cellv (HS.out.at0) 3 rfl))
  clear hc731 hc732 hc733 hc734
  obtain ⟨t735, HA736, H⟩ := bind_some H
  refine (plan_Of.calls _ a10 a11 a12 a13 t735 _ ⟨HGl0.out.pass (l := []) HS.out⟩ ⟨Sep.start _⟩ HA736).mono ?_
  rintro e_ w737 ⟨rfl, hS⟩
  replace HS : Aside0 (Sep (fps []) w [b1 g728 a10 a11 a12 a13] w737) := ⟨HS.out.call hS⟩
  clear hS
  by_cases c758 : t735.2.2.2.2.2.2.2.2 = 0
  · replace H := if_yes c758 H
    have c758b0 : (t735.2.2.2.2.2.2.2.2 == 0) = true := beq_iff_eq.mpr c758
    have c758b1 : (t735.2.2.2.2.2.2.2.2 != 0) = false := bne_eq_false_iff_eq.mpr c758
    clear c758
    go_wp2_with (first | ((with_reducible refine gate_dst (N := 4) rfl ?_); refine box_on ?hg (N := 4) ?hd (cs := #[.int .i64 0, .int .i64 0, .int .i64 0, .int .i64 0, .int .i64 0, .int .i64 0, .int .i64 0, .int .i64 0]) (t := 97) ?hr ?_; (case hd => rfl); (case hg => rfl); (case hr => first | (go_simp; done) | (go_simp; rfl)); intro g738 hg w739 hbox hb; replace HS : Aside0 (Sep (fps []) w [b1 g728 a10 a11 a12 a13, b2 g738 0 0 0 0 0 0 0 0] w739) := ⟨HS.out.box hg hbox hb⟩; clear hg hbox hb; have hc741 : w739.cell? ⟨g738, 0, none⟩ = some (.int .i64 0) := blk_cellv (HS.out.at1) 0 rfl; have hz742 : w739.frozen? ⟨g738, 0, none⟩ = false := blk_fz (HS.out.at1) 0; have hc743 : w739.cell? ⟨g738, 1, none⟩ = some (.int .i64 0) := blk_cellv (HS.out.at1) 1 rfl; have hz744 : w739.frozen? ⟨g738, 1, none⟩ = false := blk_fz (HS.out.at1) 1; have hc745 : w739.cell? ⟨g738, 2, none⟩ = some (.int .i64 0) := blk_cellv (HS.out.at1) 2 rfl; have hz746 : w739.frozen? ⟨g738, 2, none⟩ = false := blk_fz (HS.out.at1) 2; have hc747 : w739.cell? ⟨g738, 3, none⟩ = some (.int .i64 0) := blk_cellv (HS.out.at1) 3 rfl; have hz748 : w739.frozen? ⟨g738, 3, none⟩ = false := blk_fz (HS.out.at1) 3; have hc749 : w739.cell? ⟨g738, 4, none⟩ = some (.int .i64 0) := blk_cellv (HS.out.at1) 4 rfl; have hz750 : w739.frozen? ⟨g738, 4, none⟩ = false := blk_fz (HS.out.at1) 4; have hc751 : w739.cell? ⟨g738, 5, none⟩ = some (.int .i64 0) := blk_cellv (HS.out.at1) 5 rfl; have hz752 : w739.frozen? ⟨g738, 5, none⟩ = false := blk_fz (HS.out.at1) 5; have hc753 : w739.cell? ⟨g738, 6, none⟩ = some (.int .i64 0) := blk_cellv (HS.out.at1) 6 rfl; have hz754 : w739.frozen? ⟨g738, 6, none⟩ = false := blk_fz (HS.out.at1) 6; have hc755 : w739.cell? ⟨g738, 7, none⟩ = some (.int .i64 0) := blk_cellv (HS.out.at1) 7 rfl; have hz756 : w739.frozen? ⟨g738, 7, none⟩ = false := blk_fz (HS.out.at1) 7) | ((with_reducible refine gate_store (t := 97) (p := 4) rfl ?_); refine store_event (w1 := (World.setCell (World.setCell (World.setCell (World.setCell (World.setCell (World.setCell (World.setCell (World.setCell w739 ⟨g738, 0, none⟩ (.int .i64 t735.1)) ⟨g738, 1, none⟩ (.int .i64 t735.2.1)) ⟨g738, 2, none⟩ (.int .i64 t735.2.2.1)) ⟨g738, 3, none⟩ (.int .i64 t735.2.2.2.1)) ⟨g738, 4, none⟩ (.int .i64 t735.2.2.2.2.1)) ⟨g738, 5, none⟩ (.int .i64 t735.2.2.2.2.2.1)) ⟨g738, 6, none⟩ (.int .i64 t735.2.2.2.2.2.2.1)) ⟨g738, 7, none⟩ (.int .i64 t735.2.2.2.2.2.2.2.1))) rfl (t := 97) (p := 4) rfl rfl ?hr ?_; (case hr => first | (go_simp; done) | (go_simp; rfl)); intro w757 hst; clear hc741 hz742 hc743 hz744 hc745 hz746 hc747 hz748 hc749 hz750 hc751 hz752 hc753 hz754 hc755 hz756; replace HS : Aside0 (Sep (fps []) w [b1 g728 a10 a11 a12 a13, b2 g738 t735.1 t735.2.1 t735.2.2.1 t735.2.2.2.1 t735.2.2.2.2.1 t735.2.2.2.2.2.1 t735.2.2.2.2.2.2.1 t735.2.2.2.2.2.2.2.1] w757) := ⟨by rw [hst]; exact HS.out.setAll (l1 := [b1 g728 a10 a11 a12 a13]) (l2 := []) [.int .i64 t735.1, .int .i64 t735.2.1, .int .i64 t735.2.2.1, .int .i64 t735.2.2.2.1, .int .i64 t735.2.2.2.2.1, .int .i64 t735.2.2.2.2.2.1, .int .i64 t735.2.2.2.2.2.2.1, .int .i64 t735.2.2.2.2.2.2.2.1] rfl⟩; clear hst; have hc759 : w757.cell? ⟨g738, 0, none⟩ = some (.int .i64 t735.1) := blk_cellv (HS.out.at1) 0 rfl))
    clear hc759
    obtain ⟨t760, HA761, H⟩ := bind_some H
    rcases t760 with t762 | t763
    · have H := sum_l H
      refine (store_New.calls t735.1 (.inl t762) _ ⟨HGl0.out.pass (l := []) HS.out⟩ ⟨Sep.start _⟩ HA761).mono ?_
      rintro e_ w764 ⟨rfl, hS⟩
      replace HS : Aside0 (Sep (fps []) w [b1 g728 a10 a11 a12 a13, b2 g738 t735.1 t735.2.1 t735.2.2.1 t735.2.2.2.1 t735.2.2.2.2.1 t735.2.2.2.2.2.1 t735.2.2.2.2.2.2.1 t735.2.2.2.2.2.2.2.1] w764) := ⟨HS.out.call hS⟩
      clear hS
      replace HS : Aside0 (Sep (fps []) w [b1 g728 a10 a11 a12 a13] w764) := ⟨HS.out.sub (.cons_cons _ (.cons _ .slnil))⟩
      replace HS : Aside0 (Sep (fps []) w [] w764) := ⟨HS.out.sub (.cons _ .slnil)⟩
      go_wp2_with fail
      go_ret2
      rw [← some_eq H]
      exact ⟨(by first | rfl | (simp [IntKind.wrap_u32]; done)), HS.out⟩
    · have H := sum_r H
      refine (store_New.calls t735.1 (.inr t763) _ ⟨HGl0.out.pass (l := []) HS.out⟩ ⟨Sep.start _⟩ HA761).mono ?_
      rintro e_ w765 ⟨g768, rfl, A769, m770, n771, hS⟩
      replace HS : Aside0 (Sep (fps []) w [b6 g768 A769 m770 n771 0, r5 A769 m770 n771 t763, b1 g728 a10 a11 a12 a13, b2 g738 t735.1 t735.2.1 t735.2.2.1 t735.2.2.2.1 t735.2.2.2.2.1 t735.2.2.2.2.2.1 t735.2.2.2.2.2.2.1 t735.2.2.2.2.2.2.2.1] w765) := ⟨HS.out.call hS⟩
      clear hS
      obtain rfl := (row_len (HS.out.at1)).symm
      replace HS : Aside0 (Sep (fps []) w [b6 g768 A769 t763.length n771 0, r5 A769 t763.length n771 t763, b1 g728 a10 a11 a12 a13] w765) := ⟨HS.out.sub (.cons_cons _ (.cons_cons _ (.cons_cons _ (.cons _ .slnil))))⟩
      have hc773 : w765.cell? ⟨g728, 0, none⟩ = some (.int .i64 a10) := blk_cellv (HS.out.at2) 0 rfl
      have hc774 : w765.cell? ⟨g728, 1, none⟩ = some (.int .i64 a11) := blk_cellv (HS.out.at2) 1 rfl
      have hc775 : w765.cell? ⟨g728, 2, none⟩ = some (.int .i64 a12) := blk_cellv (HS.out.at2) 2 rfl
      have hc776 : w765.cell? ⟨g728, 3, none⟩ = some (.int .i64 a13) := blk_cellv (HS.out.at2) 3 rfl
      go_wp2_with (first | ((with_reducible refine gate_dst (N := 28) rfl ?_); refine box_on ?hg (N := 28) ?hd (cs := #[.pointer (some ⟨g768, 0, none⟩), .int .i64 a10, .int .i64 a11, .int .i64 a12, .int .i64 a13]) (t := 106) ?hr ?_; (case hd => rfl); (case hg => rfl); (case hr => first | (go_simp; done) | (go_simp; rfl)); intro g777 hg w778 hbox hb; clear hc773 hc774 hc775 hc776; replace HS : Aside0 (Sep (fps []) w [b6 g768 A769 t763.length n771 0, r5 A769 t763.length n771 t763, b1 g728 a10 a11 a12 a13, b7 g777 g768 a10 a11 a12 a13] w778) := ⟨HS.out.box hg hbox hb⟩; clear hg hbox hb; replace HS : Aside0 (Sep (fps []) w [b6 g768 A769 t763.length n771 0, r5 A769 t763.length n771 t763, b7 g777 g768 a10 a11 a12 a13] w778) := ⟨HS.out.sub (.cons_cons _ (.cons_cons _ (.cons _ (.cons_cons _ .slnil))))⟩))
      go_ret2
      rw [← some_eq H]
      exact ⟨g777, (by first | rfl | (simp [IntKind.wrap_u32]; done)), g768, A769, t763.length, n771, ((((HS.out).front 1 (by simp)).front 1 (by simp)).front 2 (by simp)).keep (l := [b7 g777 g768 a10 a11 a12 a13, b6 g768 A769 t763.length n771 0, r5 A769 t763.length n771 t763]) (rest := [])⟩
  · replace H := if_no c758 H
    have c758b0 : (t735.2.2.2.2.2.2.2.2 == 0) = false := beq_eq_false_iff_ne.mpr c758
    have c758b1 : (t735.2.2.2.2.2.2.2.2 != 0) = true := bne_iff_ne.mpr c758
    clear c758
    go_wp2_with (first | ((with_reducible refine gate_dst (N := 4) rfl ?_); refine box_on ?hg (N := 4) ?hd (cs := #[.int .i64 0, .int .i64 0, .int .i64 0, .int .i64 0, .int .i64 0, .int .i64 0, .int .i64 0, .int .i64 0]) (t := 97) ?hr ?_; (case hd => rfl); (case hg => rfl); (case hr => first | (go_simp; done) | (go_simp; rfl)); intro g738 hg w739 hbox hb; replace HS : Aside0 (Sep (fps []) w [b1 g728 a10 a11 a12 a13, b2 g738 0 0 0 0 0 0 0 0] w739) := ⟨HS.out.box hg hbox hb⟩; clear hg hbox hb; have hc741 : w739.cell? ⟨g738, 0, none⟩ = some (.int .i64 0) := blk_cellv (HS.out.at1) 0 rfl; have hz742 : w739.frozen? ⟨g738, 0, none⟩ = false := blk_fz (HS.out.at1) 0; have hc743 : w739.cell? ⟨g738, 1, none⟩ = some (.int .i64 0) := blk_cellv (HS.out.at1) 1 rfl; have hz744 : w739.frozen? ⟨g738, 1, none⟩ = false := blk_fz (HS.out.at1) 1; have hc745 : w739.cell? ⟨g738, 2, none⟩ = some (.int .i64 0) := blk_cellv (HS.out.at1) 2 rfl; have hz746 : w739.frozen? ⟨g738, 2, none⟩ = false := blk_fz (HS.out.at1) 2; have hc747 : w739.cell? ⟨g738, 3, none⟩ = some (.int .i64 0) := blk_cellv (HS.out.at1) 3 rfl; have hz748 : w739.frozen? ⟨g738, 3, none⟩ = false := blk_fz (HS.out.at1) 3; have hc749 : w739.cell? ⟨g738, 4, none⟩ = some (.int .i64 0) := blk_cellv (HS.out.at1) 4 rfl; have hz750 : w739.frozen? ⟨g738, 4, none⟩ = false := blk_fz (HS.out.at1) 4; have hc751 : w739.cell? ⟨g738, 5, none⟩ = some (.int .i64 0) := blk_cellv (HS.out.at1) 5 rfl; have hz752 : w739.frozen? ⟨g738, 5, none⟩ = false := blk_fz (HS.out.at1) 5; have hc753 : w739.cell? ⟨g738, 6, none⟩ = some (.int .i64 0) := blk_cellv (HS.out.at1) 6 rfl; have hz754 : w739.frozen? ⟨g738, 6, none⟩ = false := blk_fz (HS.out.at1) 6; have hc755 : w739.cell? ⟨g738, 7, none⟩ = some (.int .i64 0) := blk_cellv (HS.out.at1) 7 rfl; have hz756 : w739.frozen? ⟨g738, 7, none⟩ = false := blk_fz (HS.out.at1) 7) | ((with_reducible refine gate_store (t := 97) (p := 4) rfl ?_); refine store_event (w1 := (World.setCell (World.setCell (World.setCell (World.setCell (World.setCell (World.setCell (World.setCell (World.setCell w739 ⟨g738, 0, none⟩ (.int .i64 t735.1)) ⟨g738, 1, none⟩ (.int .i64 t735.2.1)) ⟨g738, 2, none⟩ (.int .i64 t735.2.2.1)) ⟨g738, 3, none⟩ (.int .i64 t735.2.2.2.1)) ⟨g738, 4, none⟩ (.int .i64 t735.2.2.2.2.1)) ⟨g738, 5, none⟩ (.int .i64 t735.2.2.2.2.2.1)) ⟨g738, 6, none⟩ (.int .i64 t735.2.2.2.2.2.2.1)) ⟨g738, 7, none⟩ (.int .i64 t735.2.2.2.2.2.2.2.1))) rfl (t := 97) (p := 4) rfl rfl ?hr ?_; (case hr => first | (go_simp; done) | (go_simp; rfl)); intro w757 hst; clear hc741 hz742 hc743 hz744 hc745 hz746 hc747 hz748 hc749 hz750 hc751 hz752 hc753 hz754 hc755 hz756; replace HS : Aside0 (Sep (fps []) w [b1 g728 a10 a11 a12 a13, b2 g738 t735.1 t735.2.1 t735.2.2.1 t735.2.2.2.1 t735.2.2.2.2.1 t735.2.2.2.2.2.1 t735.2.2.2.2.2.2.1 t735.2.2.2.2.2.2.2.1] w757) := ⟨by rw [hst]; exact HS.out.setAll (l1 := [b1 g728 a10 a11 a12 a13]) (l2 := []) [.int .i64 t735.1, .int .i64 t735.2.1, .int .i64 t735.2.2.1, .int .i64 t735.2.2.2.1, .int .i64 t735.2.2.2.2.1, .int .i64 t735.2.2.2.2.2.1, .int .i64 t735.2.2.2.2.2.2.1, .int .i64 t735.2.2.2.2.2.2.2.1] rfl⟩; clear hst; replace HS : Aside0 (Sep (fps []) w [] w757) := ⟨HS.out.sub (.cons _ (.cons _ .slnil))⟩))
    go_ret2
    rw [← some_eq H]
    exact ⟨(by first | rfl | (simp [IntKind.wrap_u32]; done)), HS.out⟩

set_option maxHeartbeats 30000000 in
set_option maxRecDepth 100000 in
theorem chain_of.calls (l850 : List Int) (a855 : Int) (a856 : Int) (a857 : Int) (a858 : Int) (a859 : Int) (a860 : Int) (g846 : Nat) (g848 : Nat) (A851 : Option Addr) (m852 : Nat) (n853 : Nat) (r : Int × Int × Int × Bool) (w : World)  (HGl0 : Aside0 (Gl 0 #[.int .i64 0, .int .i64 0, .int .i64 0, .int .i64 0, .int .i64 0] (fps [b7 g846 g848 a856 a857 a858 a859, b6 g848 A851 m852 n853 a855, r5 A851 m852 n853 l850]) w)) (HS : Aside0 (Sep (fps [b7 g846 g848 a856 a857 a858 a859, b6 g848 A851 m852 n853 a855, r5 A851 m852 n853 l850]) w [b7 g846 g848 a856 a857 a858 a859, b6 g848 A851 m852 n853 a855, r5 A851 m852 n853 l850] w)) (H : Aside0 (chain_of.f l850 a855 a856 a857 a858 a859 a860 = some r)) :
    Calls Tryd.prog 139 #[.pointer (some ⟨g846, 0, none⟩), .int .i64 a860] w fun e w' => e = .returned (.tuple #[.agg #[.int .i64 r.1, .int .i64 r.2.1, .int .i64 r.2.2.1], .bool r.2.2.2]) ∧ Sep (fps [b7 g846 g848 a856 a857 a858 a859, b6 g848 A851 m852 n853 a855, r5 A851 m852 n853 l850]) w [b7 g846 g848 a856 a857 a858 a859, b6 g848 A851 m852 n853 a855, r5 A851 m852 n853 l850] w' := by
  generalize (fps [b7 g846 g848 a856 a857 a858 a859, b6 g848 A851 m852 n853 a855, r5 A851 m852 n853 l850]) = FF at HS HGl0 ⊢
  obtain rfl := (row_len (HS.out.at2)).symm
  unfold chain_of.f at H
  go_enter Tryd.func139, Tryd.ntmps139
  by_cases c864 : a860 < 0
  · replace H := if_yes c864 H
    have c864b0 : decide (a860 < 0) = true := decide_eq_true c864
    clear c864
    go_wp2_with (first | ((with_reducible refine gate_dst (N := 4) rfl ?_); refine box_on ?hg (N := 4) ?hd (cs := #[.int .i64 0, .int .i64 0, .int .i64 0]) (t := 166) ?hr ?_; (case hd => rfl); (case hg => rfl); (case hr => first | (go_simp; done) | (go_simp; rfl)); intro g861 hg w862 hbox hb; replace HS : Aside0 (Sep FF w [b7 g846 g848 a856 a857 a858 a859, b6 g848 A851 l850.length n853 a855, r5 A851 l850.length n853 l850, b8 g861 0 0 0] w862) := ⟨HS.out.box hg hbox hb⟩; clear hg hbox hb; have hc865 : w862.cell? ⟨g861, 0, none⟩ = some (.int .i64 0) := blk_cellv (HS.out.at3) 0 rfl; have hz866 : w862.frozen? ⟨g861, 0, none⟩ = false := blk_fz (HS.out.at3) 0; have hc867 : w862.cell? ⟨g861, 1, none⟩ = some (.int .i64 0) := blk_cellv (HS.out.at3) 1 rfl; have hz868 : w862.frozen? ⟨g861, 1, none⟩ = false := blk_fz (HS.out.at3) 1; have hc869 : w862.cell? ⟨g861, 2, none⟩ = some (.int .i64 0) := blk_cellv (HS.out.at3) 2 rfl; have hz870 : w862.frozen? ⟨g861, 2, none⟩ = false := blk_fz (HS.out.at3) 2) | ((with_reducible refine gate_store (t := 166) (p := 4) rfl ?_); refine store_event (w1 := (World.setCell (World.setCell (World.setCell w862 ⟨g861, 0, none⟩ (.int .i64 0)) ⟨g861, 1, none⟩ (.int .i64 0)) ⟨g861, 2, none⟩ (.int .i64 0))) rfl (t := 166) (p := 4) rfl rfl ?hr ?_; (case hr => first | (go_simp; done) | (go_simp; rfl)); intro w871 hst; clear hc865 hz866 hc867 hz868 hc869 hz870; replace HS : Aside0 (Sep FF w [b7 g846 g848 a856 a857 a858 a859, b6 g848 A851 l850.length n853 a855, r5 A851 l850.length n853 l850, b8 g861 0 0 0] w871) := ⟨by rw [hst]; exact HS.out.setAll (l1 := [b7 g846 g848 a856 a857 a858 a859, b6 g848 A851 l850.length n853 a855, r5 A851 l850.length n853 l850]) (l2 := []) [.int .i64 0, .int .i64 0, .int .i64 0] rfl⟩; clear hst))
    have hc872 : w871.cell? ⟨g861, 0, none⟩ = some (.int .i64 0) := blk_cellv (HS.out.at3) 0 rfl
    have hc873 : w871.cell? ⟨g861, 1, none⟩ = some (.int .i64 0) := blk_cellv (HS.out.at3) 1 rfl
    have hc874 : w871.cell? ⟨g861, 2, none⟩ = some (.int .i64 0) := blk_cellv (HS.out.at3) 2 rfl
    refine bodyPost_ret (v := .tuple #[.agg #[.int .i64 0, .int .i64 0, .int .i64 0], .bool false]) (by simp [results, Tryd.results139, go_sem, hc872, hc873, hc874]) rfl ?_
    rw [← some_eq H]
    exact ⟨(by first | rfl | (simp [IntKind.wrap_u32]; done)), HS.out.sub (.cons_cons _ (.cons_cons _ (.cons_cons _ (.cons _ .slnil))))⟩
  · replace H := if_no c864 H
    have c864b0 : decide (a860 < 0) = false := decide_eq_false c864
    clear c864
    by_cases c875 : a860 > 1
    · replace H := if_yes c875 H
      have c875b0 : decide (1 < a860) = true := decide_eq_true c875
      clear c875
      go_wp2_with (first | ((with_reducible refine gate_dst (N := 4) rfl ?_); refine box_on ?hg (N := 4) ?hd (cs := #[.int .i64 0, .int .i64 0, .int .i64 0]) (t := 166) ?hr ?_; (case hd => rfl); (case hg => rfl); (case hr => first | (go_simp; done) | (go_simp; rfl)); intro g861 hg w862 hbox hb; replace HS : Aside0 (Sep FF w [b7 g846 g848 a856 a857 a858 a859, b6 g848 A851 l850.length n853 a855, r5 A851 l850.length n853 l850, b8 g861 0 0 0] w862) := ⟨HS.out.box hg hbox hb⟩; clear hg hbox hb; have hc876 : w862.cell? ⟨g861, 0, none⟩ = some (.int .i64 0) := blk_cellv (HS.out.at3) 0 rfl; have hz877 : w862.frozen? ⟨g861, 0, none⟩ = false := blk_fz (HS.out.at3) 0; have hc878 : w862.cell? ⟨g861, 1, none⟩ = some (.int .i64 0) := blk_cellv (HS.out.at3) 1 rfl; have hz879 : w862.frozen? ⟨g861, 1, none⟩ = false := blk_fz (HS.out.at3) 1; have hc880 : w862.cell? ⟨g861, 2, none⟩ = some (.int .i64 0) := blk_cellv (HS.out.at3) 2 rfl; have hz881 : w862.frozen? ⟨g861, 2, none⟩ = false := blk_fz (HS.out.at3) 2) | ((with_reducible refine gate_store (t := 166) (p := 4) rfl ?_); refine store_event (w1 := (World.setCell (World.setCell (World.setCell w862 ⟨g861, 0, none⟩ (.int .i64 0)) ⟨g861, 1, none⟩ (.int .i64 0)) ⟨g861, 2, none⟩ (.int .i64 0))) rfl (t := 166) (p := 4) rfl rfl ?hr ?_; (case hr => first | (go_simp; done) | (go_simp; rfl)); intro w882 hst; clear hc876 hz877 hc878 hz879 hc880 hz881; replace HS : Aside0 (Sep FF w [b7 g846 g848 a856 a857 a858 a859, b6 g848 A851 l850.length n853 a855, r5 A851 l850.length n853 l850, b8 g861 0 0 0] w882) := ⟨by rw [hst]; exact HS.out.setAll (l1 := [b7 g846 g848 a856 a857 a858 a859, b6 g848 A851 l850.length n853 a855, r5 A851 l850.length n853 l850]) (l2 := []) [.int .i64 0, .int .i64 0, .int .i64 0] rfl⟩; clear hst))
      have hc883 : w882.cell? ⟨g861, 0, none⟩ = some (.int .i64 0) := blk_cellv (HS.out.at3) 0 rfl
      have hc884 : w882.cell? ⟨g861, 1, none⟩ = some (.int .i64 0) := blk_cellv (HS.out.at3) 1 rfl
      have hc885 : w882.cell? ⟨g861, 2, none⟩ = some (.int .i64 0) := blk_cellv (HS.out.at3) 2 rfl
      refine bodyPost_ret (v := .tuple #[.agg #[.int .i64 0, .int .i64 0, .int .i64 0], .bool false]) (by simp [results, Tryd.results139, go_sem, hc883, hc884, hc885]) rfl ?_
      rw [← some_eq H]
      exact ⟨(by first | rfl | (simp [IntKind.wrap_u32]; done)), HS.out.sub (.cons_cons _ (.cons_cons _ (.cons_cons _ (.cons _ .slnil))))⟩
    · replace H := if_no c875 H
      have c875b0 : decide (1 < a860) = false := decide_eq_false c875
      clear c875
      go_wp2_with (first | ((with_reducible refine gate_dst (N := 4) rfl ?_); refine box_on ?hg (N := 4) ?hd (cs := #[.int .i64 0, .int .i64 0, .int .i64 0]) (t := 166) ?hr ?_; (case hd => rfl); (case hg => rfl); (case hr => first | (go_simp; done) | (go_simp; rfl)); intro g861 hg w862 hbox hb; replace HS : Aside0 (Sep FF w [b7 g846 g848 a856 a857 a858 a859, b6 g848 A851 l850.length n853 a855, r5 A851 l850.length n853 l850, b8 g861 0 0 0] w862) := ⟨HS.out.box hg hbox hb⟩; clear hg hbox hb; have hc886 : w862.cell? ⟨g861, 0, none⟩ = some (.int .i64 0) := blk_cellv (HS.out.at3) 0 rfl; have hz887 : w862.frozen? ⟨g861, 0, none⟩ = false := blk_fz (HS.out.at3) 0; have hc888 : w862.cell? ⟨g861, 1, none⟩ = some (.int .i64 0) := blk_cellv (HS.out.at3) 1 rfl; have hz889 : w862.frozen? ⟨g861, 1, none⟩ = false := blk_fz (HS.out.at3) 1; have hc890 : w862.cell? ⟨g861, 2, none⟩ = some (.int .i64 0) := blk_cellv (HS.out.at3) 2 rfl; have hz891 : w862.frozen? ⟨g861, 2, none⟩ = false := blk_fz (HS.out.at3) 2) | ((with_reducible refine gate_store (t := 166) (p := 4) rfl ?_); refine store_event (w1 := (World.setCell (World.setCell (World.setCell w862 ⟨g861, 0, none⟩ (.int .i64 (wrap64 (3 * a860)))) ⟨g861, 1, none⟩ (.int .i64 (wrap64 ((wrap64 (3 * a860)) + 1)))) ⟨g861, 2, none⟩ (.int .i64 (wrap64 ((wrap64 (3 * a860)) + 2))))) rfl (t := 166) (p := 4) rfl rfl ?hr ?_; (case hr => first | (go_simp; done) | (go_simp; rfl)); intro w892 hst; clear hc886 hz887 hc888 hz889 hc890 hz891; replace HS : Aside0 (Sep FF w [b7 g846 g848 a856 a857 a858 a859, b6 g848 A851 l850.length n853 a855, r5 A851 l850.length n853 l850, b8 g861 (wrap64 (3 * a860)) (wrap64 ((wrap64 (3 * a860)) + 1)) (wrap64 ((wrap64 (3 * a860)) + 2))] w892) := ⟨by rw [hst]; exact HS.out.setAll (l1 := [b7 g846 g848 a856 a857 a858 a859, b6 g848 A851 l850.length n853 a855, r5 A851 l850.length n853 l850]) (l2 := []) [.int .i64 (wrap64 (3 * a860)), .int .i64 (wrap64 ((wrap64 (3 * a860)) + 1)), .int .i64 (wrap64 ((wrap64 (3 * a860)) + 2))] rfl⟩; clear hst))
      have hc893 : w892.cell? ⟨g861, 0, none⟩ = some (.int .i64 (wrap64 (3 * a860))) := blk_cellv (HS.out.at3) 0 rfl
      have hc894 : w892.cell? ⟨g861, 1, none⟩ = some (.int .i64 (wrap64 ((wrap64 (3 * a860)) + 1))) := blk_cellv (HS.out.at3) 1 rfl
      have hc895 : w892.cell? ⟨g861, 2, none⟩ = some (.int .i64 (wrap64 ((wrap64 (3 * a860)) + 2))) := blk_cellv (HS.out.at3) 2 rfl
      refine bodyPost_ret (v := .tuple #[.agg #[.int .i64 (wrap64 (3 * a860)), .int .i64 (wrap64 ((wrap64 (3 * a860)) + 1)), .int .i64 (wrap64 ((wrap64 (3 * a860)) + 2))], .bool true]) (by simp [results, Tryd.results139, go_sem, hc893, hc894, hc895]) rfl ?_
      rw [← some_eq H]
      exact ⟨(by first | rfl | (simp [IntKind.wrap_u32]; done)), HS.out.sub (.cons_cons _ (.cons_cons _ (.cons_cons _ (.cons _ .slnil))))⟩

set_option maxHeartbeats 30000000 in
set_option maxRecDepth 100000 in
theorem ground_Ground_all.calls (l932 : List Int) (a937 : Int) (a938 : Int) (a939 : Int) (a940 : Int) (a941 : Int) (g928 : Nat) (g930 : Nat) (A933 : Option Addr) (m934 : Nat) (n935 : Nat) (r : Unit) (w : World)  (HGl0 : Aside0 (Gl 0 #[.int .i64 0, .int .i64 0, .int .i64 0, .int .i64 0, .int .i64 0] (fps [b7 g928 g930 a938 a939 a940 a941, b6 g930 A933 m934 n935 a937, r5 A933 m934 n935 l932]) w)) (HS : Aside0 (Sep (fps [b7 g928 g930 a938 a939 a940 a941, b6 g930 A933 m934 n935 a937, r5 A933 m934 n935 l932]) w [b7 g928 g930 a938 a939 a940 a941, b6 g930 A933 m934 n935 a937, r5 A933 m934 n935 l932] w)) (H : Aside0 (ground_Ground_all.f l932 a937 a938 a939 a940 a941 = some r)) :
    Calls Tryd.prog 70 #[.pointer (some ⟨g928, 0, none⟩)] w fun e w' => e = .returned (.pointer (some ⟨g930, 0, none⟩)) ∧ Sep (fps [b7 g928 g930 a938 a939 a940 a941, b6 g930 A933 m934 n935 a937, r5 A933 m934 n935 l932]) w [b7 g928 g930 a938 a939 a940 a941, b6 g930 A933 m934 n935 a937, r5 A933 m934 n935 l932] w' := by
  generalize (fps [b7 g928 g930 a938 a939 a940 a941, b6 g930 A933 m934 n935 a937, r5 A933 m934 n935 l932]) = FF at HS HGl0 ⊢
  obtain rfl := (row_len (HS.out.at2)).symm
  unfold ground_Ground_all.f at H
  go_enter Tryd.func70, Tryd.ntmps70
  have hc942 : w.cell? ⟨g928, 0, none⟩ = some (.pointer (some ⟨g930, 0, none⟩)) := blk_cellv (HS.out.at0) 0 rfl
  go_wp2_with fail
  clear hc942
  go_ret
  clear H
  exact ⟨(by first | rfl | (simp [IntKind.wrap_u32]; done)), HS.out⟩

set_option maxHeartbeats 30000000 in
set_option maxRecDepth 100000 in
theorem ground_within.calls (a947 : Int) (a948 : Int) (a949 : Int) (r : Int) (w : World)  (HGl0 : Aside0 (Gl 0 #[.int .i64 0, .int .i64 0, .int .i64 0, .int .i64 0, .int .i64 0] (fps []) w)) (HS : Aside0 (Sep (fps []) w [] w)) (H : Aside0 (ground_within.f a947 a948 a949 = some r)) :
    Calls Tryd.prog 129 #[.int .i64 a947, .int .i64 a948, .int .i64 a949] w fun e w' => e = .returned (.int .i64 r) ∧ Sep (fps []) w [] w' := by
  unfold ground_within.f at H
  go_enter Tryd.func129, Tryd.ntmps129
  by_cases c950 : a947 < 0
  · replace H := if_yes c950 H
    have c950b0 : decide (a947 < 0) = true := decide_eq_true c950
    clear c950
    go_wp2_with fail
    go_ret
    rw [← some_eq H]
    exact ⟨(by first | rfl | (simp [IntKind.wrap_u32]; done)), HS.out⟩
  · replace H := if_no c950 H
    have c950b0 : decide (a947 < 0) = false := decide_eq_false c950
    clear c950
    by_cases c951 : a947 ≥ a948
    · replace H := if_yes c951 H
      have c951b0 : decide (a948 ≤ a947) = true := decide_eq_true c951
      clear c951
      go_wp2_with fail
      go_ret
      rw [← some_eq H]
      exact ⟨(by first | rfl | (simp [IntKind.wrap_u32]; done)), HS.out⟩
    · replace H := if_no c951 H
      have c951b0 : decide (a948 ≤ a947) = false := decide_eq_false c951
      clear c951
      go_wp2_with fail
      go_ret
      rw [← some_eq H]
      exact ⟨(by first | rfl | (simp [IntKind.wrap_u32]; done)), HS.out⟩

set_option maxHeartbeats 30000000 in
set_option maxRecDepth 100000 in
theorem ground_reg.calls (a946 : Int) (r : Int) (w : World)  (HGl0 : Aside0 (Gl 0 #[.int .i64 0, .int .i64 0, .int .i64 0, .int .i64 0, .int .i64 0] (fps []) w)) (HS : Aside0 (Sep (fps []) w [] w)) (H : Aside0 (ground_reg.f a946 = some r)) :
    Calls Tryd.prog 131 #[.int .i64 a946] w fun e w' => e = .returned (.int .i64 r) ∧ Sep (fps []) w [] w' := by
  unfold ground_reg.f at H
  go_enter Tryd.func131, Tryd.ntmps131
  go_wp2_with fail
  obtain ⟨t952, HA953, H⟩ := bind_some H
  refine (ground_within.calls a946 24 0 t952 _ ⟨HGl0.out.pass (l := []) HS.out⟩ ⟨Sep.start _⟩ HA953).mono ?_
  rintro e_ w954 ⟨rfl, hS⟩
  replace HS : Aside0 (Sep (fps []) w [] w954) := ⟨HS.out.call hS⟩
  clear hS
  go_wp2_with fail
  go_ret
  rw [← some_eq H]
  exact ⟨(by first | rfl | (simp [IntKind.wrap_u32]; done)), HS.out⟩

set_option maxHeartbeats 30000000 in
set_option maxRecDepth 100000 in
theorem store_Store_has.calls (l971 : List Int) (a976 : Int) (a977 : Int) (g969 : Nat) (A972 : Option Addr) (m973 : Nat) (n974 : Nat) (r : Bool) (w : World)  (HGl0 : Aside0 (Gl 0 #[.int .i64 0, .int .i64 0, .int .i64 0, .int .i64 0, .int .i64 0] (fps [b6 g969 A972 m973 n974 a976, r5 A972 m973 n974 l971]) w)) (HS : Aside0 (Sep (fps [b6 g969 A972 m973 n974 a976, r5 A972 m973 n974 l971]) w [b6 g969 A972 m973 n974 a976, r5 A972 m973 n974 l971] w)) (H : Aside0 (store_Store_has.f l971 a976 a977 = some r)) :
    Calls Tryd.prog 127 #[.pointer (some ⟨g969, 0, none⟩), .int .i64 a977] w fun e w' => e = .returned (.bool r) ∧ Sep (fps [b6 g969 A972 m973 n974 a976, r5 A972 m973 n974 l971]) w [b6 g969 A972 m973 n974 a976, r5 A972 m973 n974 l971] w' := by
  generalize (fps [b6 g969 A972 m973 n974 a976, r5 A972 m973 n974 l971]) = FF at HS HGl0 ⊢
  obtain rfl := (row_len (HS.out.at1)).symm
  unfold store_Store_has.f at H
  go_enter Tryd.func127, Tryd.ntmps127
  by_cases c978 : a977 ≥ 0
  · replace H := if_yes c978 H
    have c978b0 : decide (0 ≤ a977) = true := decide_eq_true c978
    clear c978
    have hc979 : w.cell? ⟨g969, 0, none⟩ = some (.slice A972 l971.length n974) := blk_cellv (HS.out.at0) 0 rfl
    go_wp2_with fail
    clear hc979
    go_ret
    rw [← some_eq H]
    exact ⟨(by first | rfl | (simp [IntKind.wrap_u32]; done)), HS.out⟩
  · replace H := if_no c978 H
    have c978b0 : decide (0 ≤ a977) = false := decide_eq_false c978
    clear c978
    go_wp2_with fail
    go_ret
    rw [← some_eq H]
    exact ⟨(by first | rfl | (simp [IntKind.wrap_u32]; done)), HS.out⟩

set_option maxHeartbeats 30000000 in
set_option maxRecDepth 100000 in
theorem atomic_Uint64_Add.calls (l987 : List Int) (a992 : Int) (a993 : Int) (g985 : Nat) (A988 : Option Addr) (m989 : Nat) (n990 : Nat) (r : Int × Int) (w : World)  (HGl0 : Aside0 (Gl 0 #[.int .i64 0, .int .i64 0, .int .i64 0, .int .i64 0, .int .i64 0] (fps [b6 g985 A988 m989 n990 a992, r5 A988 m989 n990 l987]) w)) (HS : Aside0 (Sep (fps [b6 g985 A988 m989 n990 a992, r5 A988 m989 n990 l987]) w [b6 g985 A988 m989 n990 a992, r5 A988 m989 n990 l987] w)) (H : Aside0 (atomic_Uint64_Add.f l987 a992 a993 = some r)) :
    Calls Tryd.prog 128 #[.pointer (some ⟨g985, 1, none⟩), .int .u64 a993] w fun e w' => e = .returned (.int .u64 r.1) ∧ Sep (fps [b6 g985 A988 m989 n990 a992, r5 A988 m989 n990 l987]) w [b6 g985 A988 m989 n990 r.2, r5 A988 m989 n990 l987] w' := by
  generalize (fps [b6 g985 A988 m989 n990 a992, r5 A988 m989 n990 l987]) = FF at HS HGl0 ⊢
  obtain rfl := (row_len (HS.out.at1)).symm
  unfold atomic_Uint64_Add.f at H
  go_enter Tryd.func128, Tryd.ntmps128
  obtain ⟨y1003, HA1004, H⟩ := bind_some H
  have hc1000 : w.cell? ⟨g985, 1, none⟩ = some (.int .u64 a992) := blk_cellv (HS.out.at0) 1 rfl
  have hz1002 : w.frozen? ⟨g985, 1, none⟩ = false := blk_fz (HS.out.at0) 1
  have hn1001 : (callFunc 153 #[.pointer (some ⟨g985, 1, none⟩), .int .u64 a993]).run Tryd.prog w = .ok (.value (.int .u64 y1003)) ((World.setCell w ⟨g985, 1, none⟩ (.int .u64 y1003))) := (some_eq HA1004) ▸ run_call_add Tryd.func153 (by kernel_rfl) (by kernel_rfl) (by kernel_rfl) .u64 (by kernel_rfl) hc1000 hz1002 (by rfl)
  go_wp2_with (first | ((with_reducible refine gate_dst (N := 9) rfl ?_); refine run_on2 (by rfl) (w1 := (World.setCell w ⟨g985, 1, none⟩ (.int .u64 y1003))) (v := .int .u64 y1003) ?hr ?_; (case hr => first | (go_simp; done) | (go_simp; rfl)); intro w1005 hst; clear hc1000 hz1002; have hq0 : Sep FF w [b6 g985 A988 l987.length n990 y1003, r5 A988 l987.length n990 l987] (World.setCell w ⟨g985, 1, none⟩ (.int .u64 y1003)) := (HS.out).set1 (l1 := []) (l2 := [r5 A988 l987.length n990 l987]) 1 (.int .u64 y1003); replace HS : Aside0 (Sep FF w [b6 g985 A988 l987.length n990 y1003, r5 A988 l987.length n990 l987] w1005) := ⟨by rw [hst]; exact hq0⟩; clear hst hn1001 hq0))
  go_ret
  rw [← some_eq H]
  exact ⟨(by first | rfl | (simp [IntKind.wrap_u32]; done)), HS.out⟩

set_option maxHeartbeats 30000000 in
set_option maxRecDepth 100000 in
theorem store_Store_Get.calls (l961 : List Int) (a966 : Int) (a967 : Int) (g959 : Nat) (A962 : Option Addr) (m963 : Nat) (n964 : Nat) (r : Int × Int) (w : World)  (HGl0 : Aside0 (Gl 0 #[.int .i64 0, .int .i64 0, .int .i64 0, .int .i64 0, .int .i64 0] (fps [b6 g959 A962 m963 n964 a966, r5 A962 m963 n964 l961]) w)) (HS : Aside0 (Sep (fps [b6 g959 A962 m963 n964 a966, r5 A962 m963 n964 l961]) w [b6 g959 A962 m963 n964 a966, r5 A962 m963 n964 l961] w)) (H : Aside0 (store_Store_Get.f l961 a966 a967 = some r)) :
    Calls Tryd.prog 130 #[.pointer (some ⟨g959, 0, none⟩), .int .i64 a967] w fun e w' => e = .returned (.int .u32 r.1) ∧ Sep (fps [b6 g959 A962 m963 n964 a966, r5 A962 m963 n964 l961]) w [b6 g959 A962 m963 n964 r.2, r5 A962 m963 n964 l961] w' := by
  generalize (fps [b6 g959 A962 m963 n964 a966, r5 A962 m963 n964 l961]) = FF at HS HGl0 ⊢
  obtain rfl := (row_len (HS.out.at1)).symm
  unfold store_Store_Get.f at H
  go_enter Tryd.func130, Tryd.ntmps130
  go_wp2_with fail
  obtain ⟨t1015, HA1016, H⟩ := bind_some H
  refine (store_Store_has.calls l961 a966 a967 g959 A962 l961.length n964 t1015 _ ⟨HGl0.out.pass HS.out⟩ ⟨HS.out.begin⟩ HA1016).mono ?_
  rintro e_ w1017 ⟨rfl, hS⟩
  replace HS : Aside0 (Sep FF w [b6 g959 A962 l961.length n964 a966, r5 A962 l961.length n964 l961] w1017) := ⟨HS.out.call hS⟩
  clear hS
  by_cases c1018 : t1015 = true
  · replace H := if_yes c1018 H
    have c1018b0 : t1015 = true := c1018
    have c1018b1 : (!t1015) = false := by rw [c1018b0]; rfl
    try rw [c1018b1]
    clear c1018
    go_wp2_with fail
    obtain ⟨t1019, HA1020, H⟩ := bind_some H
    refine (atomic_Uint64_Add.calls l961 a966 1 g959 A962 l961.length n964 t1019 _ ⟨HGl0.out.pass HS.out⟩ ⟨HS.out.begin⟩ HA1020).mono ?_
    rintro e_ w1021 ⟨rfl, hS⟩
    replace HS : Aside0 (Sep FF w [b6 g959 A962 l961.length n964 t1019.2, r5 A962 l961.length n964 l961] w1021) := ⟨HS.out.call hS⟩
    clear hS
    by_cases c1023 : 0 ≤ a967
    · replace H := if_yes c1023 H
      have c1023b0 : decide (0 ≤ a967) = true := decide_eq_true c1023
      have c1023p : (0 ≤ a967) = True := eq_true c1023
      clear c1023
      by_cases c1024 : a967 < (l961.length : Int)
      · replace H := if_yes c1024 H
        have c1024b0 : decide (a967 < (l961.length : Int)) = true := decide_eq_true c1024
        have c1024p : (a967 < (l961.length : Int)) = True := eq_true c1024
        clear c1024
        have hc1022 : w1021.cell? ⟨g959, 0, none⟩ = some (.slice A962 l961.length n964) := blk_cellv (HS.out.at0) 0 rfl
        obtain ⟨g1025, ea⟩ := row_at (HS.out.at1) (by have := (of_decide_eq_true c1023b0); have := (of_decide_eq_true c1024b0); omega); cases ea
        have hx1026 := C_at_int (row_Ci (HS.out.at1)) a967 (of_decide_eq_true c1023b0) (of_decide_eq_true c1024b0)
        have hx1027 : w1021.cell? ⟨g1025, (a967).toNat, none⟩ = some (.int .u32 (rd l961 a967)) := (row_get 0 (HS.out.at1) a967 (of_decide_eq_true c1023b0) (of_decide_eq_true c1024b0)).1
        go_wp2_with fail
        clear hc1022 hx1026 hx1027
        go_ret
        rw [← some_eq H]
        exact ⟨(by first | rfl | (simp [IntKind.wrap_u32]; done)), HS.out⟩
      · replace H := if_no c1024 H
        have c1024b0 : decide (a967 < (l961.length : Int)) = false := decide_eq_false c1024
        clear c1024
        exact (none_no H).elim
    · replace H := if_no c1023 H
      have c1023b0 : decide (0 ≤ a967) = false := decide_eq_false c1023
      clear c1023
      exact (none_no H).elim
  · replace H := if_no c1018 H
    have c1018b0 : t1015 = false := by simpa using c1018
    have c1018b1 : (!t1015) = true := by rw [c1018b0]; rfl
    try rw [c1018b1]
    clear c1018
    go_wp2_with fail
    go_ret
    rw [← some_eq H]
    exact ⟨(by first | rfl | (simp [IntKind.wrap_u32]; done)), HS.out⟩

set_option maxHeartbeats 30000000 in
set_option maxRecDepth 100000 in
theorem ground_Ground_Reg.calls (l916 : List Int) (a921 : Int) (a922 : Int) (a923 : Int) (a924 : Int) (a925 : Int) (a926 : Int) (g912 : Nat) (g914 : Nat) (A917 : Option Addr) (m918 : Nat) (n919 : Nat) (r : Int × Int) (w : World)  (HGl0 : Aside0 (Gl 0 #[.int .i64 0, .int .i64 0, .int .i64 0, .int .i64 0, .int .i64 0] (fps [b7 g912 g914 a922 a923 a924 a925, b6 g914 A917 m918 n919 a921, r5 A917 m918 n919 l916]) w)) (HS : Aside0 (Sep (fps [b7 g912 g914 a922 a923 a924 a925, b6 g914 A917 m918 n919 a921, r5 A917 m918 n919 l916]) w [b7 g912 g914 a922 a923 a924 a925, b6 g914 A917 m918 n919 a921, r5 A917 m918 n919 l916] w)) (H : Aside0 (ground_Ground_Reg.f l916 a921 a922 a923 a924 a925 a926 = some r)) :
    Calls Tryd.prog 81 #[.pointer (some ⟨g912, 0, none⟩), .int .i64 a926] w fun e w' => e = .returned (.int .i64 r.1) ∧ Sep (fps [b7 g912 g914 a922 a923 a924 a925, b6 g914 A917 m918 n919 a921, r5 A917 m918 n919 l916]) w [b7 g912 g914 a922 a923 a924 a925, b6 g914 A917 m918 n919 r.2, r5 A917 m918 n919 l916] w' := by
  generalize (fps [b7 g912 g914 a922 a923 a924 a925, b6 g914 A917 m918 n919 a921, r5 A917 m918 n919 l916]) = FF at HS HGl0 ⊢
  obtain rfl := (row_len (HS.out.at2)).symm
  unfold ground_Ground_Reg.f at H
  go_enter Tryd.func81, Tryd.ntmps81
  go_wp2_with fail
  obtain ⟨t1031, HA1032, H⟩ := bind_some H
  refine (ground_Ground_all.calls l916 a921 a922 a923 a924 a925 g912 g914 A917 l916.length n919 t1031 _ ⟨HGl0.out.pass HS.out⟩ ⟨HS.out.begin⟩ HA1032).mono ?_
  rintro e_ w1033 ⟨rfl, hS⟩
  replace HS : Aside0 (Sep FF w [b7 g912 g914 a922 a923 a924 a925, b6 g914 A917 l916.length n919 a921, r5 A917 l916.length n919 l916] w1033) := ⟨HS.out.call hS⟩
  clear hS
  go_wp2_with fail
  obtain ⟨t1034, HA1035, H⟩ := bind_some H
  refine (ground_reg.calls a926 t1034 _ ⟨HGl0.out.pass (l := []) HS.out⟩ ⟨Sep.start _⟩ HA1035).mono ?_
  rintro e_ w1036 ⟨rfl, hS⟩
  replace HS : Aside0 (Sep FF w [b7 g912 g914 a922 a923 a924 a925, b6 g914 A917 l916.length n919 a921, r5 A917 l916.length n919 l916] w1036) := ⟨HS.out.call hS⟩
  clear hS
  go_wp2_with fail
  replace HS : Aside0 (Sep FF w [r5 A917 l916.length n919 l916, b7 g912 g914 a922 a923 a924 a925, b6 g914 A917 l916.length n919 a921] w1036) := ⟨HS.out.front 2 (by simp)⟩
  replace HS : Aside0 (Sep FF w [b6 g914 A917 l916.length n919 a921, r5 A917 l916.length n919 l916, b7 g912 g914 a922 a923 a924 a925] w1036) := ⟨HS.out.front 2 (by simp)⟩
  obtain ⟨t1037, HA1038, H⟩ := bind_some H
  refine (store_Store_Get.calls l916 a921 t1034 g914 A917 l916.length n919 t1037 _ ⟨HGl0.out.pass HS.out⟩ ⟨HS.out.begin⟩ HA1038).mono ?_
  rintro e_ w1039 ⟨rfl, hS⟩
  replace HS : Aside0 (Sep FF w [b6 g914 A917 l916.length n919 t1037.2, r5 A917 l916.length n919 l916, b7 g912 g914 a922 a923 a924 a925] w1039) := ⟨HS.out.call hS⟩
  clear hS
  go_wp2_with fail
  go_ret
  rw [← some_eq H]
  exact ⟨(by first | rfl | (simp [IntKind.wrap_u32]; done)), ((((HS.out).front 1 (by simp)).front 1 (by simp)).front 2 (by simp)).keep (l := [b7 g912 g914 a922 a923 a924 a925, b6 g914 A917 l916.length n919 t1037.2, r5 A917 l916.length n919 l916]) (rest := [])⟩

set_option maxHeartbeats 30000000 in
set_option maxRecDepth 100000 in
theorem chain_Len.calls (l834 : List Int) (a839 : Int) (a840 : Int) (a841 : Int) (a842 : Int) (a843 : Int) (a844 : Int) (g830 : Nat) (g832 : Nat) (A835 : Option Addr) (m836 : Nat) (n837 : Nat) (r : Int × Int) (w : World)  (HGl0 : Aside0 (Gl 0 #[.int .i64 0, .int .i64 0, .int .i64 0, .int .i64 0, .int .i64 0] (fps [b7 g830 g832 a840 a841 a842 a843, b6 g832 A835 m836 n837 a839, r5 A835 m836 n837 l834]) w)) (HS : Aside0 (Sep (fps [b7 g830 g832 a840 a841 a842 a843, b6 g832 A835 m836 n837 a839, r5 A835 m836 n837 l834]) w [b7 g830 g832 a840 a841 a842 a843, b6 g832 A835 m836 n837 a839, r5 A835 m836 n837 l834] w)) (H : Aside0 (chain_Len.f l834 a839 a840 a841 a842 a843 a844 = some r)) :
    Calls Tryd.prog 105 #[.pointer (some ⟨g830, 0, none⟩), .int .i64 a844] w fun e w' => e = .returned (.int .i64 r.1) ∧ Sep (fps [b7 g830 g832 a840 a841 a842 a843, b6 g832 A835 m836 n837 a839, r5 A835 m836 n837 l834]) w [b7 g830 g832 a840 a841 a842 a843, b6 g832 A835 m836 n837 r.2, r5 A835 m836 n837 l834] w' := by
  generalize (fps [b7 g830 g832 a840 a841 a842 a843, b6 g832 A835 m836 n837 a839, r5 A835 m836 n837 l834]) = FF at HS HGl0 ⊢
  obtain rfl := (row_len (HS.out.at2)).symm
  unfold chain_Len.f at H
  go_enter Tryd.func105, Tryd.ntmps105
  go_wp2_with fail
  obtain ⟨t1043, HA1044, H⟩ := bind_some H
  refine (chain_of.calls l834 a839 a840 a841 a842 a843 a844 g830 g832 A835 l834.length n837 t1043 _ ⟨HGl0.out.pass HS.out⟩ ⟨HS.out.begin⟩ HA1044).mono ?_
  rintro e_ w1045 ⟨rfl, hS⟩
  replace HS : Aside0 (Sep FF w [b7 g830 g832 a840 a841 a842 a843, b6 g832 A835 l834.length n837 a839, r5 A835 l834.length n837 l834] w1045) := ⟨HS.out.call hS⟩
  clear hS
  by_cases c1056 : t1043.2.2.2 = true
  · replace H := if_yes c1056 H
    have c1056b0 : t1043.2.2.2 = true := c1056
    have c1056b1 : (!t1043.2.2.2) = false := by rw [c1056b0]; rfl
    try rw [c1056b1]
    clear c1056
    go_wp2_with (first | ((with_reducible refine gate_dst (N := 5) rfl ?_); refine box_on ?hg (N := 5) ?hd (cs := #[.int .i64 0, .int .i64 0, .int .i64 0]) (t := 166) ?hr ?_; (case hd => rfl); (case hg => rfl); (case hr => first | (go_simp; done) | (go_simp; rfl)); intro g1046 hg w1047 hbox hb; replace HS : Aside0 (Sep FF w [b7 g830 g832 a840 a841 a842 a843, b6 g832 A835 l834.length n837 a839, r5 A835 l834.length n837 l834, b8 g1046 0 0 0] w1047) := ⟨HS.out.box hg hbox hb⟩; clear hg hbox hb; have hc1049 : w1047.cell? ⟨g1046, 0, none⟩ = some (.int .i64 0) := blk_cellv (HS.out.at3) 0 rfl; have hz1050 : w1047.frozen? ⟨g1046, 0, none⟩ = false := blk_fz (HS.out.at3) 0; have hc1051 : w1047.cell? ⟨g1046, 1, none⟩ = some (.int .i64 0) := blk_cellv (HS.out.at3) 1 rfl; have hz1052 : w1047.frozen? ⟨g1046, 1, none⟩ = false := blk_fz (HS.out.at3) 1; have hc1053 : w1047.cell? ⟨g1046, 2, none⟩ = some (.int .i64 0) := blk_cellv (HS.out.at3) 2 rfl; have hz1054 : w1047.frozen? ⟨g1046, 2, none⟩ = false := blk_fz (HS.out.at3) 2) | ((with_reducible refine gate_store (t := 166) (p := 5) rfl ?_); refine store_event (w1 := (World.setCell (World.setCell (World.setCell w1047 ⟨g1046, 0, none⟩ (.int .i64 t1043.1)) ⟨g1046, 1, none⟩ (.int .i64 t1043.2.1)) ⟨g1046, 2, none⟩ (.int .i64 t1043.2.2.1))) rfl (t := 166) (p := 5) rfl rfl ?hr ?_; (case hr => first | (go_simp; done) | (go_simp; rfl)); intro w1055 hst; clear hc1049 hz1050 hc1051 hz1052 hc1053 hz1054; replace HS : Aside0 (Sep FF w [b7 g830 g832 a840 a841 a842 a843, b6 g832 A835 l834.length n837 a839, r5 A835 l834.length n837 l834, b8 g1046 t1043.1 t1043.2.1 t1043.2.2.1] w1055) := ⟨by rw [hst]; exact HS.out.setAll (l1 := [b7 g830 g832 a840 a841 a842 a843, b6 g832 A835 l834.length n837 a839, r5 A835 l834.length n837 l834]) (l2 := []) [.int .i64 t1043.1, .int .i64 t1043.2.1, .int .i64 t1043.2.2.1] rfl⟩; clear hst; have hc1057 : w1055.cell? ⟨g1046, 2, none⟩ = some (.int .i64 t1043.2.2.1) := blk_cellv (HS.out.at3) 2 rfl))
    clear hc1057
    obtain ⟨t1058, HA1059, H⟩ := bind_some H
    refine (ground_Ground_Reg.calls l834 a839 a840 a841 a842 a843 t1043.2.2.1 g830 g832 A835 l834.length n837 t1058 _ ⟨HGl0.out.pass HS.out⟩ ⟨HS.out.begin⟩ HA1059).mono ?_
    rintro e_ w1060 ⟨rfl, hS⟩
    replace HS : Aside0 (Sep FF w [b7 g830 g832 a840 a841 a842 a843, b6 g832 A835 l834.length n837 t1058.2, r5 A835 l834.length n837 l834, b8 g1046 t1043.1 t1043.2.1 t1043.2.2.1] w1060) := ⟨HS.out.call hS⟩
    clear hS
    replace HS : Aside0 (Sep FF w [b7 g830 g832 a840 a841 a842 a843, b6 g832 A835 l834.length n837 t1058.2, r5 A835 l834.length n837 l834] w1060) := ⟨HS.out.sub (.cons_cons _ (.cons_cons _ (.cons_cons _ (.cons _ .slnil))))⟩
    go_wp2_with fail
    go_ret
    rw [← some_eq H]
    exact ⟨(by first | rfl | (simp [IntKind.wrap_u32]; done)), HS.out⟩
  · replace H := if_no c1056 H
    have c1056b0 : t1043.2.2.2 = false := by simpa using c1056
    have c1056b1 : (!t1043.2.2.2) = true := by rw [c1056b0]; rfl
    try rw [c1056b1]
    clear c1056
    go_wp2_with (first | ((with_reducible refine gate_dst (N := 5) rfl ?_); refine box_on ?hg (N := 5) ?hd (cs := #[.int .i64 0, .int .i64 0, .int .i64 0]) (t := 166) ?hr ?_; (case hd => rfl); (case hg => rfl); (case hr => first | (go_simp; done) | (go_simp; rfl)); intro g1046 hg w1047 hbox hb; replace HS : Aside0 (Sep FF w [b7 g830 g832 a840 a841 a842 a843, b6 g832 A835 l834.length n837 a839, r5 A835 l834.length n837 l834, b8 g1046 0 0 0] w1047) := ⟨HS.out.box hg hbox hb⟩; clear hg hbox hb; have hc1049 : w1047.cell? ⟨g1046, 0, none⟩ = some (.int .i64 0) := blk_cellv (HS.out.at3) 0 rfl; have hz1050 : w1047.frozen? ⟨g1046, 0, none⟩ = false := blk_fz (HS.out.at3) 0; have hc1051 : w1047.cell? ⟨g1046, 1, none⟩ = some (.int .i64 0) := blk_cellv (HS.out.at3) 1 rfl; have hz1052 : w1047.frozen? ⟨g1046, 1, none⟩ = false := blk_fz (HS.out.at3) 1; have hc1053 : w1047.cell? ⟨g1046, 2, none⟩ = some (.int .i64 0) := blk_cellv (HS.out.at3) 2 rfl; have hz1054 : w1047.frozen? ⟨g1046, 2, none⟩ = false := blk_fz (HS.out.at3) 2) | ((with_reducible refine gate_store (t := 166) (p := 5) rfl ?_); refine store_event (w1 := (World.setCell (World.setCell (World.setCell w1047 ⟨g1046, 0, none⟩ (.int .i64 t1043.1)) ⟨g1046, 1, none⟩ (.int .i64 t1043.2.1)) ⟨g1046, 2, none⟩ (.int .i64 t1043.2.2.1))) rfl (t := 166) (p := 5) rfl rfl ?hr ?_; (case hr => first | (go_simp; done) | (go_simp; rfl)); intro w1055 hst; clear hc1049 hz1050 hc1051 hz1052 hc1053 hz1054; replace HS : Aside0 (Sep FF w [b7 g830 g832 a840 a841 a842 a843, b6 g832 A835 l834.length n837 a839, r5 A835 l834.length n837 l834, b8 g1046 t1043.1 t1043.2.1 t1043.2.2.1] w1055) := ⟨by rw [hst]; exact HS.out.setAll (l1 := [b7 g830 g832 a840 a841 a842 a843, b6 g832 A835 l834.length n837 a839, r5 A835 l834.length n837 l834]) (l2 := []) [.int .i64 t1043.1, .int .i64 t1043.2.1, .int .i64 t1043.2.2.1] rfl⟩; clear hst; replace HS : Aside0 (Sep FF w [b7 g830 g832 a840 a841 a842 a843, b6 g832 A835 l834.length n837 a839, r5 A835 l834.length n837 l834] w1055) := ⟨HS.out.sub (.cons_cons _ (.cons_cons _ (.cons_cons _ (.cons _ .slnil))))⟩))
    go_ret
    rw [← some_eq H]
    exact ⟨(by first | rfl | (simp [IntKind.wrap_u32]; done)), HS.out⟩

set_option maxHeartbeats 30000000 in
set_option maxRecDepth 100000 in
theorem ground_Ground_Conf.calls (l1074 : List Int) (a1079 : Int) (a1080 : Int) (a1081 : Int) (a1082 : Int) (a1083 : Int) (g1070 : Nat) (g1072 : Nat) (A1075 : Option Addr) (m1076 : Nat) (n1077 : Nat) (r : Int × Int × Int × Int) (w : World)  (HGl0 : Aside0 (Gl 0 #[.int .i64 0, .int .i64 0, .int .i64 0, .int .i64 0, .int .i64 0] (fps [b7 g1070 g1072 a1080 a1081 a1082 a1083, b6 g1072 A1075 m1076 n1077 a1079, r5 A1075 m1076 n1077 l1074]) w)) (HS : Aside0 (Sep (fps [b7 g1070 g1072 a1080 a1081 a1082 a1083, b6 g1072 A1075 m1076 n1077 a1079, r5 A1075 m1076 n1077 l1074]) w [b7 g1070 g1072 a1080 a1081 a1082 a1083, b6 g1072 A1075 m1076 n1077 a1079, r5 A1075 m1076 n1077 l1074] w)) (H : Aside0 (ground_Ground_Conf.f l1074 a1079 a1080 a1081 a1082 a1083 = some r)) :
    Calls Tryd.prog 86 #[.pointer (some ⟨g1070, 0, none⟩)] w fun e w' => e = .returned (.agg #[.int .i64 r.1, .int .i64 r.2.1, .int .i64 r.2.2.1, .int .i64 r.2.2.2]) ∧ Sep (fps [b7 g1070 g1072 a1080 a1081 a1082 a1083, b6 g1072 A1075 m1076 n1077 a1079, r5 A1075 m1076 n1077 l1074]) w [b7 g1070 g1072 a1080 a1081 a1082 a1083, b6 g1072 A1075 m1076 n1077 a1079, r5 A1075 m1076 n1077 l1074] w' := by
  generalize (fps [b7 g1070 g1072 a1080 a1081 a1082 a1083, b6 g1072 A1075 m1076 n1077 a1079, r5 A1075 m1076 n1077 l1074]) = FF at HS HGl0 ⊢
  obtain rfl := (row_len (HS.out.at2)).symm
  unfold ground_Ground_Conf.f at H
  go_enter Tryd.func86, Tryd.ntmps86
  go_wp2_with (first | ((with_reducible refine gate_dst (N := 2) rfl ?_); refine box_on ?hg (N := 2) ?hd (cs := #[.int .i64 0, .int .i64 0, .int .i64 0, .int .i64 0]) (t := 30) ?hr ?_; (case hd => rfl); (case hg => rfl); (case hr => first | (go_simp; done) | (go_simp; rfl)); intro g1084 hg w1085 hbox hb; replace HS : Aside0 (Sep FF w [b7 g1070 g1072 a1080 a1081 a1082 a1083, b6 g1072 A1075 l1074.length n1077 a1079, r5 A1075 l1074.length n1077 l1074, b1 g1084 0 0 0 0] w1085) := ⟨HS.out.box hg hbox hb⟩; clear hg hbox hb; have hc1087 : w1085.cell? ⟨g1070, 1, none⟩ = some (.int .i64 a1080) := blk_cellv (HS.out.at0) 1 rfl; have hc1088 : w1085.cell? ⟨g1070, 2, none⟩ = some (.int .i64 a1081) := blk_cellv (HS.out.at0) 2 rfl; have hc1089 : w1085.cell? ⟨g1070, 3, none⟩ = some (.int .i64 a1082) := blk_cellv (HS.out.at0) 3 rfl; have hc1090 : w1085.cell? ⟨g1070, 4, none⟩ = some (.int .i64 a1083) := blk_cellv (HS.out.at0) 4 rfl; have hc1091 : w1085.cell? ⟨g1084, 0, none⟩ = some (.int .i64 0) := blk_cellv (HS.out.at3) 0 rfl; have hz1092 : w1085.frozen? ⟨g1084, 0, none⟩ = false := blk_fz (HS.out.at3) 0; have hc1093 : w1085.cell? ⟨g1084, 1, none⟩ = some (.int .i64 0) := blk_cellv (HS.out.at3) 1 rfl; have hz1094 : w1085.frozen? ⟨g1084, 1, none⟩ = false := blk_fz (HS.out.at3) 1; have hc1095 : w1085.cell? ⟨g1084, 2, none⟩ = some (.int .i64 0) := blk_cellv (HS.out.at3) 2 rfl; have hz1096 : w1085.frozen? ⟨g1084, 2, none⟩ = false := blk_fz (HS.out.at3) 2; have hc1097 : w1085.cell? ⟨g1084, 3, none⟩ = some (.int .i64 0) := blk_cellv (HS.out.at3) 3 rfl; have hz1098 : w1085.frozen? ⟨g1084, 3, none⟩ = false := blk_fz (HS.out.at3) 3) | ((with_reducible refine gate_store (t := 30) (p := 2) rfl ?_); refine store_event (w1 := (World.setCell (World.setCell (World.setCell (World.setCell w1085 ⟨g1084, 0, none⟩ (.int .i64 a1080)) ⟨g1084, 1, none⟩ (.int .i64 a1081)) ⟨g1084, 2, none⟩ (.int .i64 a1082)) ⟨g1084, 3, none⟩ (.int .i64 a1083))) rfl (t := 30) (p := 2) rfl rfl ?hr ?_; (case hr => first | (go_simp; done) | (go_simp; rfl)); intro w1099 hst; clear hc1087 hc1088 hc1089 hc1090 hc1091 hz1092 hc1093 hz1094 hc1095 hz1096 hc1097 hz1098; replace HS : Aside0 (Sep FF w [b7 g1070 g1072 a1080 a1081 a1082 a1083, b6 g1072 A1075 l1074.length n1077 a1079, r5 A1075 l1074.length n1077 l1074, b1 g1084 a1080 a1081 a1082 a1083] w1099) := ⟨by rw [hst]; exact HS.out.setAll (l1 := [b7 g1070 g1072 a1080 a1081 a1082 a1083, b6 g1072 A1075 l1074.length n1077 a1079, r5 A1075 l1074.length n1077 l1074]) (l2 := []) [.int .i64 a1080, .int .i64 a1081, .int .i64 a1082, .int .i64 a1083] rfl⟩; clear hst))
  have hc1100 : w1099.cell? ⟨g1084, 0, none⟩ = some (.int .i64 a1080) := blk_cellv (HS.out.at3) 0 rfl
  have hc1101 : w1099.cell? ⟨g1084, 1, none⟩ = some (.int .i64 a1081) := blk_cellv (HS.out.at3) 1 rfl
  have hc1102 : w1099.cell? ⟨g1084, 2, none⟩ = some (.int .i64 a1082) := blk_cellv (HS.out.at3) 2 rfl
  have hc1103 : w1099.cell? ⟨g1084, 3, none⟩ = some (.int .i64 a1083) := blk_cellv (HS.out.at3) 3 rfl
  refine bodyPost_ret (v := .agg #[.int .i64 a1080, .int .i64 a1081, .int .i64 a1082, .int .i64 a1083]) (by simp [results, Tryd.results86, go_sem, hc1100, hc1101, hc1102, hc1103]) rfl ?_
  rw [← some_eq H]
  exact ⟨(by first | rfl | (simp [IntKind.wrap_u32]; done)), HS.out.sub (.cons_cons _ (.cons_cons _ (.cons_cons _ (.cons _ .slnil))))⟩

set_option maxHeartbeats 30000000 in
set_option maxRecDepth 100000 in
theorem ground_Ground_word.calls (l1245 : List Int) (a1250 : Int) (a1251 : Int) (a1252 : Int) (a1253 : Int) (a1254 : Int) (a1255 : Int) (a1256 : Int) (g1241 : Nat) (g1243 : Nat) (A1246 : Option Addr) (m1247 : Nat) (n1248 : Nat) (r : Int) (w : World)  (HGl0 : Aside0 (Gl 0 #[.int .i64 0, .int .i64 0, .int .i64 0, .int .i64 0, .int .i64 0] (fps [b7 g1241 g1243 a1251 a1252 a1253 a1254, b6 g1243 A1246 m1247 n1248 a1250, r5 A1246 m1247 n1248 l1245]) w)) (HS : Aside0 (Sep (fps [b7 g1241 g1243 a1251 a1252 a1253 a1254, b6 g1243 A1246 m1247 n1248 a1250, r5 A1246 m1247 n1248 l1245]) w [b7 g1241 g1243 a1251 a1252 a1253 a1254, b6 g1243 A1246 m1247 n1248 a1250, r5 A1246 m1247 n1248 l1245] w)) (H : Aside0 (ground_Ground_word.f l1245 a1250 a1251 a1252 a1253 a1254 a1255 a1256 = some r)) :
    Calls Tryd.prog 72 #[.pointer (some ⟨g1241, 0, none⟩), .int .i64 a1255, .int .i64 a1256] w fun e w' => e = .returned (.int .i64 r) ∧ Sep (fps [b7 g1241 g1243 a1251 a1252 a1253 a1254, b6 g1243 A1246 m1247 n1248 a1250, r5 A1246 m1247 n1248 l1245]) w [b7 g1241 g1243 a1251 a1252 a1253 a1254, b6 g1243 A1246 m1247 n1248 a1250, r5 A1246 m1247 n1248 l1245] w' := by
  generalize (fps [b7 g1241 g1243 a1251 a1252 a1253 a1254, b6 g1243 A1246 m1247 n1248 a1250, r5 A1246 m1247 n1248 l1245]) = FF at HS HGl0 ⊢
  obtain rfl := (row_len (HS.out.at2)).symm
  unfold ground_Ground_word.f at H
  go_enter Tryd.func72, Tryd.ntmps72
  go_wp2_with fail
  obtain ⟨t1257, HA1258, H⟩ := bind_some H
  refine (ground_Ground_Conf.calls l1245 a1250 a1251 a1252 a1253 a1254 g1241 g1243 A1246 l1245.length n1248 t1257 _ ⟨HGl0.out.pass HS.out⟩ ⟨HS.out.begin⟩ HA1258).mono ?_
  rintro e_ w1259 ⟨rfl, hS⟩
  replace HS : Aside0 (Sep FF w [b7 g1241 g1243 a1251 a1252 a1253 a1254, b6 g1243 A1246 l1245.length n1248 a1250, r5 A1246 l1245.length n1248 l1245] w1259) := ⟨HS.out.call hS⟩
  clear hS
  go_wp2_with (first | ((with_reducible refine gate_dst (N := 7) rfl ?_); refine box_on ?hg (N := 7) ?hd (cs := #[.int .i64 0, .int .i64 0, .int .i64 0, .int .i64 0]) (t := 30) ?hr ?_; (case hd => rfl); (case hg => rfl); (case hr => first | (go_simp; done) | (go_simp; rfl)); intro g1260 hg w1261 hbox hb; replace HS : Aside0 (Sep FF w [b7 g1241 g1243 a1251 a1252 a1253 a1254, b6 g1243 A1246 l1245.length n1248 a1250, r5 A1246 l1245.length n1248 l1245, b1 g1260 0 0 0 0] w1261) := ⟨HS.out.box hg hbox hb⟩; clear hg hbox hb; have hc1263 : w1261.cell? ⟨g1260, 0, none⟩ = some (.int .i64 0) := blk_cellv (HS.out.at3) 0 rfl; have hz1264 : w1261.frozen? ⟨g1260, 0, none⟩ = false := blk_fz (HS.out.at3) 0; have hc1265 : w1261.cell? ⟨g1260, 1, none⟩ = some (.int .i64 0) := blk_cellv (HS.out.at3) 1 rfl; have hz1266 : w1261.frozen? ⟨g1260, 1, none⟩ = false := blk_fz (HS.out.at3) 1; have hc1267 : w1261.cell? ⟨g1260, 2, none⟩ = some (.int .i64 0) := blk_cellv (HS.out.at3) 2 rfl; have hz1268 : w1261.frozen? ⟨g1260, 2, none⟩ = false := blk_fz (HS.out.at3) 2; have hc1269 : w1261.cell? ⟨g1260, 3, none⟩ = some (.int .i64 0) := blk_cellv (HS.out.at3) 3 rfl; have hz1270 : w1261.frozen? ⟨g1260, 3, none⟩ = false := blk_fz (HS.out.at3) 3) | ((with_reducible refine gate_store (t := 30) (p := 7) rfl ?_); refine store_event (w1 := (World.setCell (World.setCell (World.setCell (World.setCell w1261 ⟨g1260, 0, none⟩ (.int .i64 t1257.1)) ⟨g1260, 1, none⟩ (.int .i64 t1257.2.1)) ⟨g1260, 2, none⟩ (.int .i64 t1257.2.2.1)) ⟨g1260, 3, none⟩ (.int .i64 t1257.2.2.2))) rfl (t := 30) (p := 7) rfl rfl ?hr ?_; (case hr => first | (go_simp; done) | (go_simp; rfl)); intro w1271 hst; clear hc1263 hz1264 hc1265 hz1266 hc1267 hz1268 hc1269 hz1270; replace HS : Aside0 (Sep FF w [b7 g1241 g1243 a1251 a1252 a1253 a1254, b6 g1243 A1246 l1245.length n1248 a1250, r5 A1246 l1245.length n1248 l1245, b1 g1260 t1257.1 t1257.2.1 t1257.2.2.1 t1257.2.2.2] w1271) := ⟨by rw [hst]; exact HS.out.setAll (l1 := [b7 g1241 g1243 a1251 a1252 a1253 a1254, b6 g1243 A1246 l1245.length n1248 a1250, r5 A1246 l1245.length n1248 l1245]) (l2 := []) [.int .i64 t1257.1, .int .i64 t1257.2.1, .int .i64 t1257.2.2.1, .int .i64 t1257.2.2.2] rfl⟩; clear hst; have hc1272 : w1271.cell? ⟨g1260, 0, none⟩ = some (.int .i64 t1257.1) := blk_cellv (HS.out.at3) 0 rfl))
  clear hc1272
  obtain ⟨t1273, HA1274, H⟩ := bind_some H
  refine (ground_within.calls a1255 t1257.1 0 t1273 _ ⟨HGl0.out.pass (l := []) HS.out⟩ ⟨Sep.start _⟩ HA1274).mono ?_
  rintro e_ w1275 ⟨rfl, hS⟩
  replace HS : Aside0 (Sep FF w [b7 g1241 g1243 a1251 a1252 a1253 a1254, b6 g1243 A1246 l1245.length n1248 a1250, r5 A1246 l1245.length n1248 l1245, b1 g1260 t1257.1 t1257.2.1 t1257.2.2.1 t1257.2.2.2] w1275) := ⟨HS.out.call hS⟩
  clear hS
  by_cases c1276 : t1273 = (-1)
  · replace H := if_yes c1276 H
    have c1276b0 : (t1273 == (-1)) = true := beq_iff_eq.mpr c1276
    have c1276b1 : (t1273 != (-1)) = false := bne_eq_false_iff_eq.mpr c1276
    clear c1276
    replace HS : Aside0 (Sep FF w [b7 g1241 g1243 a1251 a1252 a1253 a1254, b6 g1243 A1246 l1245.length n1248 a1250, r5 A1246 l1245.length n1248 l1245] w1275) := ⟨HS.out.sub (.cons_cons _ (.cons_cons _ (.cons_cons _ (.cons _ .slnil))))⟩
    go_wp2_with fail
    go_ret
    rw [← some_eq H]
    exact ⟨(by first | rfl | (simp [IntKind.wrap_u32]; done)), HS.out⟩
  · replace H := if_no c1276 H
    have c1276b0 : (t1273 == (-1)) = false := beq_eq_false_iff_ne.mpr c1276
    have c1276b1 : (t1273 != (-1)) = true := bne_iff_ne.mpr c1276
    clear c1276
    have hc1277 : w1275.cell? ⟨g1260, 1, none⟩ = some (.int .i64 t1257.2.1) := blk_cellv (HS.out.at3) 1 rfl
    have hc1278 : w1275.cell? ⟨g1260, 2, none⟩ = some (.int .i64 t1257.2.2.1) := blk_cellv (HS.out.at3) 2 rfl
    go_wp2_with fail
    clear hc1277 hc1278
    obtain ⟨t1279, HA1280, H⟩ := bind_some H
    refine (ground_within.calls a1256 t1257.2.1 (wrap64 ((wrap64 (24 + t1257.2.2.1)) + (wrap64 (a1255 * t1257.2.1)))) t1279 _ ⟨HGl0.out.pass (l := []) HS.out⟩ ⟨Sep.start _⟩ HA1280).mono ?_
    rintro e_ w1281 ⟨rfl, hS⟩
    replace HS : Aside0 (Sep FF w [b7 g1241 g1243 a1251 a1252 a1253 a1254, b6 g1243 A1246 l1245.length n1248 a1250, r5 A1246 l1245.length n1248 l1245, b1 g1260 t1257.1 t1257.2.1 t1257.2.2.1 t1257.2.2.2] w1281) := ⟨HS.out.call hS⟩
    clear hS
    replace HS : Aside0 (Sep FF w [b7 g1241 g1243 a1251 a1252 a1253 a1254, b6 g1243 A1246 l1245.length n1248 a1250, r5 A1246 l1245.length n1248 l1245] w1281) := ⟨HS.out.sub (.cons_cons _ (.cons_cons _ (.cons_cons _ (.cons _ .slnil))))⟩
    go_wp2_with fail
    go_ret
    rw [← some_eq H]
    exact ⟨(by first | rfl | (simp [IntKind.wrap_u32]; done)), HS.out⟩

set_option maxHeartbeats 30000000 in
set_option maxRecDepth 100000 in
theorem store_Store_Put.calls (l1288 : List Int) (a1293 : Int) (a1294 : Int) (a1295 : Int) (g1286 : Nat) (A1289 : Option Addr) (m1290 : Nat) (n1291 : Nat) (r : Bool × Int × List Int) (w : World)  (HGl0 : Aside0 (Gl 0 #[.int .i64 0, .int .i64 0, .int .i64 0, .int .i64 0, .int .i64 0] (fps [b6 g1286 A1289 m1290 n1291 a1293, r5 A1289 m1290 n1291 l1288]) w)) (HS : Aside0 (Sep (fps [b6 g1286 A1289 m1290 n1291 a1293, r5 A1289 m1290 n1291 l1288]) w [b6 g1286 A1289 m1290 n1291 a1293, r5 A1289 m1290 n1291 l1288] w)) (H : Aside0 (store_Store_Put.f l1288 a1293 a1294 a1295 = some r)) :
    Calls Tryd.prog 71 #[.pointer (some ⟨g1286, 0, none⟩), .int .i64 a1294, .int .u32 a1295] w fun e w' => e = .returned (.bool r.1) ∧ Sep (fps [b6 g1286 A1289 m1290 n1291 a1293, r5 A1289 m1290 n1291 l1288]) w [b6 g1286 A1289 m1290 n1291 r.2.1, r5 A1289 m1290 n1291 r.2.2] w' := by
  generalize (fps [b6 g1286 A1289 m1290 n1291 a1293, r5 A1289 m1290 n1291 l1288]) = FF at HS HGl0 ⊢
  obtain rfl := (row_len (HS.out.at1)).symm
  unfold store_Store_Put.f at H
  go_enter Tryd.func71, Tryd.ntmps71
  go_wp2_with fail
  obtain ⟨t1312, HA1313, H⟩ := bind_some H
  refine (store_Store_has.calls l1288 a1293 a1294 g1286 A1289 l1288.length n1291 t1312 _ ⟨HGl0.out.pass HS.out⟩ ⟨HS.out.begin⟩ HA1313).mono ?_
  rintro e_ w1314 ⟨rfl, hS⟩
  replace HS : Aside0 (Sep FF w [b6 g1286 A1289 l1288.length n1291 a1293, r5 A1289 l1288.length n1291 l1288] w1314) := ⟨HS.out.call hS⟩
  clear hS
  by_cases c1315 : t1312 = true
  · replace H := if_yes c1315 H
    have c1315b0 : t1312 = true := c1315
    have c1315b1 : (!t1312) = false := by rw [c1315b0]; rfl
    try rw [c1315b1]
    clear c1315
    go_wp2_with fail
    obtain ⟨t1316, HA1317, H⟩ := bind_some H
    refine (atomic_Uint64_Add.calls l1288 a1293 1 g1286 A1289 l1288.length n1291 t1316 _ ⟨HGl0.out.pass HS.out⟩ ⟨HS.out.begin⟩ HA1317).mono ?_
    rintro e_ w1318 ⟨rfl, hS⟩
    replace HS : Aside0 (Sep FF w [b6 g1286 A1289 l1288.length n1291 t1316.2, r5 A1289 l1288.length n1291 l1288] w1318) := ⟨HS.out.call hS⟩
    clear hS
    by_cases c1320 : 0 ≤ a1294
    · replace H := if_yes c1320 H
      have c1320b0 : decide (0 ≤ a1294) = true := decide_eq_true c1320
      have c1320p : (0 ≤ a1294) = True := eq_true c1320
      clear c1320
      by_cases c1321 : a1294 < (l1288.length : Int)
      · replace H := if_yes c1321 H
        have c1321b0 : decide (a1294 < (l1288.length : Int)) = true := decide_eq_true c1321
        have c1321p : (a1294 < (l1288.length : Int)) = True := eq_true c1321
        clear c1321
        obtain ⟨y1324, HA1325, H⟩ := bind_some H
        have hc1319 : w1318.cell? ⟨g1286, 0, none⟩ = some (.slice A1289 l1288.length n1291) := blk_cellv (HS.out.at0) 0 rfl
        obtain ⟨g1322, ea⟩ := row_at (HS.out.at1) (by have := (of_decide_eq_true c1320b0); have := (of_decide_eq_true c1321b0); omega); cases ea
        have hx1326 := (row_get 0 (HS.out.at1) a1294 (of_decide_eq_true c1320b0) (of_decide_eq_true c1321b0)).1
        have hz1327 := (row_get 0 (HS.out.at1) a1294 (of_decide_eq_true c1320b0) (of_decide_eq_true c1321b0)).2
        go_wp2_with (first | ((with_reducible refine gate_store (t := 33) (p := 21) rfl ?_); refine store_event (w1 := World.setCell w1318 ⟨g1322, (a1294).toNat, none⟩ (.int .u32 a1295)) rfl (t := 33) (p := 21) rfl rfl ?hr ?_; (case hr => first | (go_simp; done) | (go_simp; rfl)); intro w1323 hst; clear hc1319 hx1326 hz1327; have hq := Sep.rowset (l1 := [b6 g1286 (some ⟨g1322, 0, none⟩) l1288.length n1291 t1316.2]) (l2 := []) HS.out a1294 a1295; rw [← hst, some_eq HA1325] at hq; replace HS : Aside0 (Sep FF w [b6 g1286 (some ⟨g1322, 0, none⟩) l1288.length n1291 t1316.2, r5 (some ⟨g1322, 0, none⟩) l1288.length n1291 y1324] w1323) := ⟨hq⟩; clear hst hq))
        go_ret
        rw [← some_eq H]
        exact ⟨(by first | rfl | (simp [IntKind.wrap_u32]; done)), HS.out⟩
      · replace H := if_no c1321 H
        have c1321b0 : decide (a1294 < (l1288.length : Int)) = false := decide_eq_false c1321
        clear c1321
        exact (none_no H).elim
    · replace H := if_no c1320 H
      have c1320b0 : decide (0 ≤ a1294) = false := decide_eq_false c1320
      clear c1320
      exact (none_no H).elim
  · replace H := if_no c1315 H
    have c1315b0 : t1312 = false := by simpa using c1315
    have c1315b1 : (!t1312) = true := by rw [c1315b0]; rfl
    try rw [c1315b1]
    clear c1315
    go_wp2_with fail
    go_ret
    rw [← some_eq H]
    exact ⟨(by first | rfl | (simp [IntKind.wrap_u32]; done)), HS.out⟩

set_option maxHeartbeats 30000000 in
set_option maxRecDepth 100000 in
theorem ground_Ground_SetWord.calls (l1224 : List Int) (a1229 : Int) (a1230 : Int) (a1231 : Int) (a1232 : Int) (a1233 : Int) (a1234 : Int) (a1235 : Int) (a1236 : Int) (g1220 : Nat) (g1222 : Nat) (A1225 : Option Addr) (m1226 : Nat) (n1227 : Nat) (r : Bool × Int × List Int) (w : World)  (HGl0 : Aside0 (Gl 0 #[.int .i64 0, .int .i64 0, .int .i64 0, .int .i64 0, .int .i64 0] (fps [b7 g1220 g1222 a1230 a1231 a1232 a1233, b6 g1222 A1225 m1226 n1227 a1229, r5 A1225 m1226 n1227 l1224]) w)) (HS : Aside0 (Sep (fps [b7 g1220 g1222 a1230 a1231 a1232 a1233, b6 g1222 A1225 m1226 n1227 a1229, r5 A1225 m1226 n1227 l1224]) w [b7 g1220 g1222 a1230 a1231 a1232 a1233, b6 g1222 A1225 m1226 n1227 a1229, r5 A1225 m1226 n1227 l1224] w)) (H : Aside0 (ground_Ground_SetWord.f l1224 a1229 a1230 a1231 a1232 a1233 a1234 a1235 a1236 = some r)) :
    Calls Tryd.prog 17 #[.pointer (some ⟨g1220, 0, none⟩), .int .i64 a1234, .int .i64 a1235, .int .u32 a1236] w fun e w' => e = .returned (.bool r.1) ∧ Sep (fps [b7 g1220 g1222 a1230 a1231 a1232 a1233, b6 g1222 A1225 m1226 n1227 a1229, r5 A1225 m1226 n1227 l1224]) w [b7 g1220 g1222 a1230 a1231 a1232 a1233, b6 g1222 A1225 m1226 n1227 r.2.1, r5 A1225 m1226 n1227 r.2.2] w' := by
  generalize (fps [b7 g1220 g1222 a1230 a1231 a1232 a1233, b6 g1222 A1225 m1226 n1227 a1229, r5 A1225 m1226 n1227 l1224]) = FF at HS HGl0 ⊢
  obtain rfl := (row_len (HS.out.at2)).symm
  unfold ground_Ground_SetWord.f at H
  go_enter Tryd.func17, Tryd.ntmps17
  go_wp2_with fail
  obtain ⟨t1331, HA1332, H⟩ := bind_some H
  refine (ground_Ground_all.calls l1224 a1229 a1230 a1231 a1232 a1233 g1220 g1222 A1225 l1224.length n1227 t1331 _ ⟨HGl0.out.pass HS.out⟩ ⟨HS.out.begin⟩ HA1332).mono ?_
  rintro e_ w1333 ⟨rfl, hS⟩
  replace HS : Aside0 (Sep FF w [b7 g1220 g1222 a1230 a1231 a1232 a1233, b6 g1222 A1225 l1224.length n1227 a1229, r5 A1225 l1224.length n1227 l1224] w1333) := ⟨HS.out.call hS⟩
  clear hS
  go_wp2_with fail
  obtain ⟨t1334, HA1335, H⟩ := bind_some H
  refine (ground_Ground_word.calls l1224 a1229 a1230 a1231 a1232 a1233 a1234 a1235 g1220 g1222 A1225 l1224.length n1227 t1334 _ ⟨HGl0.out.pass HS.out⟩ ⟨HS.out.begin⟩ HA1335).mono ?_
  rintro e_ w1336 ⟨rfl, hS⟩
  replace HS : Aside0 (Sep FF w [b7 g1220 g1222 a1230 a1231 a1232 a1233, b6 g1222 A1225 l1224.length n1227 a1229, r5 A1225 l1224.length n1227 l1224] w1336) := ⟨HS.out.call hS⟩
  clear hS
  go_wp2_with fail
  replace HS : Aside0 (Sep FF w [r5 A1225 l1224.length n1227 l1224, b7 g1220 g1222 a1230 a1231 a1232 a1233, b6 g1222 A1225 l1224.length n1227 a1229] w1336) := ⟨HS.out.front 2 (by simp)⟩
  replace HS : Aside0 (Sep FF w [b6 g1222 A1225 l1224.length n1227 a1229, r5 A1225 l1224.length n1227 l1224, b7 g1220 g1222 a1230 a1231 a1232 a1233] w1336) := ⟨HS.out.front 2 (by simp)⟩
  obtain ⟨t1337, HA1338, H⟩ := bind_some H
  refine (store_Store_Put.calls l1224 a1229 t1334 a1236 g1222 A1225 l1224.length n1227 t1337 _ ⟨HGl0.out.pass HS.out⟩ ⟨HS.out.begin⟩ HA1338).mono ?_
  rintro e_ w1339 ⟨rfl, hS⟩
  replace HS : Aside0 (Sep FF w [b6 g1222 A1225 l1224.length n1227 t1337.2.1, r5 A1225 l1224.length n1227 t1337.2.2, b7 g1220 g1222 a1230 a1231 a1232 a1233] w1339) := ⟨HS.out.call hS⟩
  clear hS
  go_wp2_with fail
  go_ret
  rw [← some_eq H]
  exact ⟨(by first | rfl | (simp [IntKind.wrap_u32]; done)), ((((HS.out).front 1 (by simp)).front 1 (by simp)).front 2 (by simp)).keep (l := [b7 g1220 g1222 a1230 a1231 a1232 a1233, b6 g1222 A1225 l1224.length n1227 t1337.2.1, r5 A1225 l1224.length n1227 t1337.2.2]) (rest := [])⟩

set_option maxHeartbeats 30000000 in
set_option maxRecDepth 100000 in
theorem ground_Ground_set.calls (l1371 : List Int) (a1376 : Int) (a1377 : Int) (a1378 : Int) (a1379 : Int) (a1380 : Int) (a1381 : Int) (a1382 : Int) (g1367 : Nat) (g1369 : Nat) (A1372 : Option Addr) (m1373 : Nat) (n1374 : Nat) (r : Bool × Int × List Int) (w : World)  (HGl0 : Aside0 (Gl 0 #[.int .i64 0, .int .i64 0, .int .i64 0, .int .i64 0, .int .i64 0] (fps [b7 g1367 g1369 a1377 a1378 a1379 a1380, b6 g1369 A1372 m1373 n1374 a1376, r5 A1372 m1373 n1374 l1371]) w)) (HS : Aside0 (Sep (fps [b7 g1367 g1369 a1377 a1378 a1379 a1380, b6 g1369 A1372 m1373 n1374 a1376, r5 A1372 m1373 n1374 l1371]) w [b7 g1367 g1369 a1377 a1378 a1379 a1380, b6 g1369 A1372 m1373 n1374 a1376, r5 A1372 m1373 n1374 l1371] w)) (H : Aside0 (ground_Ground_set.f l1371 a1376 a1377 a1378 a1379 a1380 a1381 a1382 = some r)) :
    Calls Tryd.prog 132 #[.pointer (some ⟨g1367, 0, none⟩), .int .i64 a1381, .int .i64 a1382] w fun e w' => e = .returned (.bool r.1) ∧ Sep (fps [b7 g1367 g1369 a1377 a1378 a1379 a1380, b6 g1369 A1372 m1373 n1374 a1376, r5 A1372 m1373 n1374 l1371]) w [b7 g1367 g1369 a1377 a1378 a1379 a1380, b6 g1369 A1372 m1373 n1374 r.2.1, r5 A1372 m1373 n1374 r.2.2] w' := by
  generalize (fps [b7 g1367 g1369 a1377 a1378 a1379 a1380, b6 g1369 A1372 m1373 n1374 a1376, r5 A1372 m1373 n1374 l1371]) = FF at HS HGl0 ⊢
  obtain rfl := (row_len (HS.out.at2)).symm
  unfold ground_Ground_set.f at H
  go_enter Tryd.func132, Tryd.ntmps132
  by_cases c1391 : a1382 < 0
  · replace H := if_yes c1391 H
    have c1391b0 : decide (a1382 < 0) = true := decide_eq_true c1391
    clear c1391
    go_wp2_with fail
    go_ret
    rw [← some_eq H]
    exact ⟨(by first | rfl | (simp [IntKind.wrap_u32]; done)), HS.out⟩
  · replace H := if_no c1391 H
    have c1391b0 : decide (a1382 < 0) = false := decide_eq_false c1391
    clear c1391
    by_cases c1392 : a1382 > 4294967295
    · replace H := if_yes c1392 H
      have c1392b0 : decide (4294967295 < a1382) = true := decide_eq_true c1392
      clear c1392
      go_wp2_with fail
      go_ret
      rw [← some_eq H]
      exact ⟨(by first | rfl | (simp [IntKind.wrap_u32]; done)), HS.out⟩
    · replace H := if_no c1392 H
      have c1392b0 : decide (4294967295 < a1382) = false := decide_eq_false c1392
      clear c1392
      go_wp2_with fail
      obtain ⟨t1393, HA1394, H⟩ := bind_some H
      refine (ground_Ground_all.calls l1371 a1376 a1377 a1378 a1379 a1380 g1367 g1369 A1372 l1371.length n1374 t1393 _ ⟨HGl0.out.pass HS.out⟩ ⟨HS.out.begin⟩ HA1394).mono ?_
      rintro e_ w1395 ⟨rfl, hS⟩
      replace HS : Aside0 (Sep FF w [b7 g1367 g1369 a1377 a1378 a1379 a1380, b6 g1369 A1372 l1371.length n1374 a1376, r5 A1372 l1371.length n1374 l1371] w1395) := ⟨HS.out.call hS⟩
      clear hS
      go_wp2_with fail
      replace HS : Aside0 (Sep FF w [r5 A1372 l1371.length n1374 l1371, b7 g1367 g1369 a1377 a1378 a1379 a1380, b6 g1369 A1372 l1371.length n1374 a1376] w1395) := ⟨HS.out.front 2 (by simp)⟩
      replace HS : Aside0 (Sep FF w [b6 g1369 A1372 l1371.length n1374 a1376, r5 A1372 l1371.length n1374 l1371, b7 g1367 g1369 a1377 a1378 a1379 a1380] w1395) := ⟨HS.out.front 2 (by simp)⟩
      obtain ⟨t1396, HA1397, H⟩ := bind_some H
      refine (store_Store_Put.calls l1371 a1376 a1381 ((a1382) % 4294967296) g1369 A1372 l1371.length n1374 t1396 _ ⟨HGl0.out.pass HS.out⟩ ⟨HS.out.begin⟩ HA1397).mono ?_
      rintro e_ w1398 ⟨rfl, hS⟩
      replace HS : Aside0 (Sep FF w [b6 g1369 A1372 l1371.length n1374 t1396.2.1, r5 A1372 l1371.length n1374 t1396.2.2, b7 g1367 g1369 a1377 a1378 a1379 a1380] w1398) := ⟨HS.out.call hS⟩
      clear hS
      go_wp2_with fail
      go_ret
      rw [← some_eq H]
      exact ⟨(by first | rfl | (simp [IntKind.wrap_u32]; done)), ((((HS.out).front 1 (by simp)).front 1 (by simp)).front 2 (by simp)).keep (l := [b7 g1367 g1369 a1377 a1378 a1379 a1380, b6 g1369 A1372 l1371.length n1374 t1396.2.1, r5 A1372 l1371.length n1374 t1396.2.2]) (rest := [])⟩

set_option maxHeartbeats 30000000 in
set_option maxRecDepth 100000 in
theorem ground_Ground_SetReg.calls (l1351 : List Int) (a1356 : Int) (a1357 : Int) (a1358 : Int) (a1359 : Int) (a1360 : Int) (a1361 : Int) (a1362 : Int) (g1347 : Nat) (g1349 : Nat) (A1352 : Option Addr) (m1353 : Nat) (n1354 : Nat) (r : Bool × Int × List Int) (w : World)  (HGl0 : Aside0 (Gl 0 #[.int .i64 0, .int .i64 0, .int .i64 0, .int .i64 0, .int .i64 0] (fps [b7 g1347 g1349 a1357 a1358 a1359 a1360, b6 g1349 A1352 m1353 n1354 a1356, r5 A1352 m1353 n1354 l1351]) w)) (HS : Aside0 (Sep (fps [b7 g1347 g1349 a1357 a1358 a1359 a1360, b6 g1349 A1352 m1353 n1354 a1356, r5 A1352 m1353 n1354 l1351]) w [b7 g1347 g1349 a1357 a1358 a1359 a1360, b6 g1349 A1352 m1353 n1354 a1356, r5 A1352 m1353 n1354 l1351] w)) (H : Aside0 (ground_Ground_SetReg.f l1351 a1356 a1357 a1358 a1359 a1360 a1361 a1362 = some r)) :
    Calls Tryd.prog 83 #[.pointer (some ⟨g1347, 0, none⟩), .int .i64 a1361, .int .i64 a1362] w fun e w' => e = .returned (.bool r.1) ∧ Sep (fps [b7 g1347 g1349 a1357 a1358 a1359 a1360, b6 g1349 A1352 m1353 n1354 a1356, r5 A1352 m1353 n1354 l1351]) w [b7 g1347 g1349 a1357 a1358 a1359 a1360, b6 g1349 A1352 m1353 n1354 r.2.1, r5 A1352 m1353 n1354 r.2.2] w' := by
  generalize (fps [b7 g1347 g1349 a1357 a1358 a1359 a1360, b6 g1349 A1352 m1353 n1354 a1356, r5 A1352 m1353 n1354 l1351]) = FF at HS HGl0 ⊢
  obtain rfl := (row_len (HS.out.at2)).symm
  unfold ground_Ground_SetReg.f at H
  go_enter Tryd.func83, Tryd.ntmps83
  go_wp2_with fail
  obtain ⟨t1402, HA1403, H⟩ := bind_some H
  refine (ground_reg.calls a1361 t1402 _ ⟨HGl0.out.pass (l := []) HS.out⟩ ⟨Sep.start _⟩ HA1403).mono ?_
  rintro e_ w1404 ⟨rfl, hS⟩
  replace HS : Aside0 (Sep FF w [b7 g1347 g1349 a1357 a1358 a1359 a1360, b6 g1349 A1352 l1351.length n1354 a1356, r5 A1352 l1351.length n1354 l1351] w1404) := ⟨HS.out.call hS⟩
  clear hS
  go_wp2_with fail
  obtain ⟨t1405, HA1406, H⟩ := bind_some H
  refine (ground_Ground_set.calls l1351 a1356 a1357 a1358 a1359 a1360 t1402 a1362 g1347 g1349 A1352 l1351.length n1354 t1405 _ ⟨HGl0.out.pass HS.out⟩ ⟨HS.out.begin⟩ HA1406).mono ?_
  rintro e_ w1407 ⟨rfl, hS⟩
  replace HS : Aside0 (Sep FF w [b7 g1347 g1349 a1357 a1358 a1359 a1360, b6 g1349 A1352 l1351.length n1354 t1405.2.1, r5 A1352 l1351.length n1354 t1405.2.2] w1407) := ⟨HS.out.call hS⟩
  clear hS
  go_wp2_with fail
  go_ret
  rw [← some_eq H]
  exact ⟨(by first | rfl | (simp [IntKind.wrap_u32]; done)), HS.out⟩

set_option maxHeartbeats 30000000 in
set_option maxRecDepth 100000 in
theorem chain_Add_1.calls (a1189 : Int) (a1190 : Int) (a1191 : Int) (a1192 : Int) (a1193 : Int) (l1201 : List Int) (a1206 : Int) (a1207 : Int) (a1208 : Int) (a1209 : Int) (a1210 : Int) (a1213 : Int) (g1195 : Nat) (g1197 : Nat) (g1199 : Nat) (A1202 : Option Addr) (m1203 : Nat) (n1204 : Nat) (g1212 : Nat) (r : Int × List Int) (w : World)  (HGl0 : Aside0 (Gl 0 #[.int .i64 0, .int .i64 0, .int .i64 0, .int .i64 0, .int .i64 0] (fps [b9 g1195 g1197, b7 g1197 g1199 a1207 a1208 a1209 a1210, b6 g1199 A1202 m1203 n1204 a1206, r5 A1202 m1203 n1204 l1201, b10 g1212 a1213]) w)) (HS : Aside0 (Sep (fps [b9 g1195 g1197, b7 g1197 g1199 a1207 a1208 a1209 a1210, b6 g1199 A1202 m1203 n1204 a1206, r5 A1202 m1203 n1204 l1201, b10 g1212 a1213]) w [b9 g1195 g1197, b7 g1197 g1199 a1207 a1208 a1209 a1210, b6 g1199 A1202 m1203 n1204 a1206, r5 A1202 m1203 n1204 l1201, b10 g1212 a1213] w)) (H : Aside0 (chain_Add_1.f a1189 a1190 a1191 a1192 a1193 l1201 a1206 a1207 a1208 a1209 a1210 a1213 = some r)) :
    Calls Tryd.prog 143 #[.agg #[.int .i64 a1189, .int .i64 a1190, .int .i64 a1191], .int .i64 a1192, .int .i64 a1193, .pointer (some ⟨g1195, 0, none⟩), .pointer (some ⟨g1212, 0, none⟩)] w fun e w' => e = .returned (.tuple #[]) ∧ Sep (fps [b9 g1195 g1197, b7 g1197 g1199 a1207 a1208 a1209 a1210, b6 g1199 A1202 m1203 n1204 a1206, r5 A1202 m1203 n1204 l1201, b10 g1212 a1213]) w [b9 g1195 g1197, b7 g1197 g1199 a1207 a1208 a1209 a1210, b6 g1199 A1202 m1203 n1204 r.1, r5 A1202 m1203 n1204 r.2, b10 g1212 a1213] w' := by
  generalize (fps [b9 g1195 g1197, b7 g1197 g1199 a1207 a1208 a1209 a1210, b6 g1199 A1202 m1203 n1204 a1206, r5 A1202 m1203 n1204 l1201, b10 g1212 a1213]) = FF at HS HGl0 ⊢
  obtain rfl := (row_len (HS.out.at3)).symm
  unfold chain_Add_1.f at H
  go_enter Tryd.func143, Tryd.ntmps143
  go_wp2_with (first | ((with_reducible refine gate_dst (N := 5) rfl ?_); refine box_on ?hg (N := 5) ?hd (cs := #[.int .i64 a1189, .int .i64 a1190, .int .i64 a1191]) (t := 166) ?hr ?_; (case hd => rfl); (case hg => rfl); (case hr => first | (go_simp; done) | (go_simp; rfl)); intro g1416 hg w1417 hbox hb; replace HS : Aside0 (Sep FF w [b9 g1195 g1197, b7 g1197 g1199 a1207 a1208 a1209 a1210, b6 g1199 A1202 l1201.length n1204 a1206, r5 A1202 l1201.length n1204 l1201, b10 g1212 a1213, b8 g1416 a1189 a1190 a1191] w1417) := ⟨HS.out.box hg hbox hb⟩; clear hg hbox hb; have hc1419 : w1417.cell? ⟨g1195, 0, none⟩ = some (.pointer (some ⟨g1197, 0, none⟩)) := blk_cellv (HS.out.at0) 0 rfl; have hc1420 : w1417.cell? ⟨g1212, 0, none⟩ = some (.int .i64 a1213) := blk_cellv (HS.out.at4) 0 rfl))
  clear hc1419 hc1420
  replace HS : Aside0 (Sep FF w [r5 A1202 l1201.length n1204 l1201, b9 g1195 g1197, b7 g1197 g1199 a1207 a1208 a1209 a1210, b6 g1199 A1202 l1201.length n1204 a1206, b10 g1212 a1213, b8 g1416 a1189 a1190 a1191] w1417) := ⟨HS.out.front 3 (by simp)⟩
  replace HS : Aside0 (Sep FF w [b6 g1199 A1202 l1201.length n1204 a1206, r5 A1202 l1201.length n1204 l1201, b9 g1195 g1197, b7 g1197 g1199 a1207 a1208 a1209 a1210, b10 g1212 a1213, b8 g1416 a1189 a1190 a1191] w1417) := ⟨HS.out.front 3 (by simp)⟩
  replace HS : Aside0 (Sep FF w [b7 g1197 g1199 a1207 a1208 a1209 a1210, b6 g1199 A1202 l1201.length n1204 a1206, r5 A1202 l1201.length n1204 l1201, b9 g1195 g1197, b10 g1212 a1213, b8 g1416 a1189 a1190 a1191] w1417) := ⟨HS.out.front 3 (by simp)⟩
  obtain ⟨t1421, HA1422, H⟩ := bind_some H
  refine (ground_Ground_SetWord.calls l1201 a1206 a1207 a1208 a1209 a1210 a1213 5 0 g1197 g1199 A1202 l1201.length n1204 t1421 _ ⟨HGl0.out.pass HS.out⟩ ⟨HS.out.begin⟩ HA1422).mono ?_
  rintro e_ w1423 ⟨rfl, hS⟩
  replace HS : Aside0 (Sep FF w [b7 g1197 g1199 a1207 a1208 a1209 a1210, b6 g1199 A1202 l1201.length n1204 t1421.2.1, r5 A1202 l1201.length n1204 t1421.2.2, b9 g1195 g1197, b10 g1212 a1213, b8 g1416 a1189 a1190 a1191] w1423) := ⟨HS.out.call hS⟩
  clear hS
  by_cases c1424 : a1193 = 0
  · replace H := if_yes c1424 H
    have c1424b0 : (a1193 == 0) = true := beq_iff_eq.mpr c1424
    have c1424b1 : (a1193 != 0) = false := bne_eq_false_iff_eq.mpr c1424
    clear c1424
    have hc1425 : w1423.cell? ⟨g1195, 0, none⟩ = some (.pointer (some ⟨g1197, 0, none⟩)) := blk_cellv (HS.out.at3) 0 rfl
    have hc1426 : w1423.cell? ⟨g1416, 0, none⟩ = some (.int .i64 a1189) := blk_cellv (HS.out.at5) 0 rfl
    go_wp2_with fail
    clear hc1425 hc1426
    obtain ⟨t1427, HA1428, H⟩ := bind_some H
    refine (ground_Ground_SetReg.calls t1421.2.2 t1421.2.1 a1207 a1208 a1209 a1210 a1189 a1192 g1197 g1199 A1202 l1201.length n1204 t1427 _ ⟨HGl0.out.pass HS.out⟩ ⟨HS.out.begin⟩ HA1428).mono ?_
    rintro e_ w1429 ⟨rfl, hS⟩
    replace HS : Aside0 (Sep FF w [b7 g1197 g1199 a1207 a1208 a1209 a1210, b6 g1199 A1202 l1201.length n1204 t1427.2.1, r5 A1202 l1201.length n1204 t1427.2.2, b9 g1195 g1197, b10 g1212 a1213, b8 g1416 a1189 a1190 a1191] w1429) := ⟨HS.out.call hS⟩
    clear hS
    have hc1430 : w1429.cell? ⟨g1195, 0, none⟩ = some (.pointer (some ⟨g1197, 0, none⟩)) := blk_cellv (HS.out.at3) 0 rfl
    have hc1431 : w1429.cell? ⟨g1416, 1, none⟩ = some (.int .i64 a1190) := blk_cellv (HS.out.at5) 1 rfl
    go_wp2_with fail
    clear hc1430 hc1431
    obtain ⟨t1432, HA1433, H⟩ := bind_some H
    refine (ground_Ground_SetReg.calls t1427.2.2 t1427.2.1 a1207 a1208 a1209 a1210 a1190 a1192 g1197 g1199 A1202 l1201.length n1204 t1432 _ ⟨HGl0.out.pass HS.out⟩ ⟨HS.out.begin⟩ HA1433).mono ?_
    rintro e_ w1434 ⟨rfl, hS⟩
    replace HS : Aside0 (Sep FF w [b7 g1197 g1199 a1207 a1208 a1209 a1210, b6 g1199 A1202 l1201.length n1204 t1432.2.1, r5 A1202 l1201.length n1204 t1432.2.2, b9 g1195 g1197, b10 g1212 a1213, b8 g1416 a1189 a1190 a1191] w1434) := ⟨HS.out.call hS⟩
    clear hS
    replace HS : Aside0 (Sep FF w [b7 g1197 g1199 a1207 a1208 a1209 a1210, b6 g1199 A1202 l1201.length n1204 t1432.2.1, r5 A1202 l1201.length n1204 t1432.2.2, b9 g1195 g1197, b10 g1212 a1213] w1434) := ⟨HS.out.sub (.cons_cons _ (.cons_cons _ (.cons_cons _ (.cons_cons _ (.cons_cons _ (.cons _ .slnil))))))⟩
    go_wp2_with fail
    first | go_end0 | refine bodyPost_ret (results_none rfl _ _ _) rfl ?_
    rw [← some_eq H]
    exact ⟨rfl, ((((((HS.out).front 4 (by simp)).front 3 (by simp)).front 3 (by simp)).front 3 (by simp)).front 4 (by simp)).keep (l := [b9 g1195 g1197, b7 g1197 g1199 a1207 a1208 a1209 a1210, b6 g1199 A1202 l1201.length n1204 t1432.2.1, r5 A1202 l1201.length n1204 t1432.2.2, b10 g1212 a1213]) (rest := [])⟩
  · replace H := if_no c1424 H
    have c1424b0 : (a1193 == 0) = false := beq_eq_false_iff_ne.mpr c1424
    have c1424b1 : (a1193 != 0) = true := bne_iff_ne.mpr c1424
    clear c1424
    go_wp2_with fail
    refine start_ (n := 9) (S := (fun w' => w'.cell? ⟨g1195, 0, none⟩ = some (.pointer (some ⟨g1197, 0, none⟩)) ∧ w'.cell? ⟨g1416, 1, none⟩ = some (.int .i64 a1190))) (ds := []) #[false, false, false, false, false, false, false, false, false] (by kernel_rfl) rfl rfl (⟨blk_cellv ((HS.out.drew).at3) 0 rfl, blk_cellv ((HS.out.drew).at5) 1 rfl⟩) (fun hHeld => ?_)
    have HS_ := Aside0.mk HS.out.drew
    clear HS
    generalize World.drew _ = w1436 at HS_ hHeld ⊢
    have HS := HS_
    clear HS_
    refine pure_ (i := 2) (N := some 20) (v := ?_) (a' := ?_) #[false, false, true, false, false, false, false, false, false] rfl rfl (by kernel_rfl) (fun _ _ _ h => h) (Or.inl ⟨by rfl, ?_⟩) ?_ ?_
    rotate_left
    · intro w'
      go_simp
      with_reducible rfl
    rotate_left
    · simp only [Act.put, List.setIfInBounds_toArray, List.set_cons_zero, List.set_cons_succ, i64_w, i32_w]
      rfl
    refine pure_ (i := 6) (N := some 24) (v := ?_) (a' := ?_) #[false, false, true, false, false, false, true, false, false] rfl rfl (by kernel_rfl) (fun _ _ _ h => h) (Or.inl ⟨by rfl, ?_⟩) ?_ ?_
    rotate_left
    · intro w'
      go_simp
      with_reducible rfl
    rotate_left
    · simp only [Act.put, List.setIfInBounds_toArray, List.set_cons_zero, List.set_cons_succ, i64_w, i32_w]
      rfl
    refine pure_ (i := 7) (N := some 25) (v := ?_) (a' := ?_) #[false, false, true, false, false, false, true, true, false] rfl rfl (by kernel_rfl) (fun _ _ _ h => h) (Or.inl ⟨by rfl, ?_⟩) ?_ ?_
    rotate_left
    · intro w'
      go_simp
      with_reducible rfl
    rotate_left
    · simp only [Act.put, List.setIfInBounds_toArray, List.set_cons_zero, List.set_cons_succ, i64_w, i32_w, IntKind.wrap_u32]
      rfl
    refine take_ (i := 0) (N := some 18) (v := ?_) (a' := ?_) #[true, false, true, false, false, false, true, true, false] rfl rfl (by kernel_rfl) (fun _ _ _ h => h) (Or.inl ⟨by rfl, ?_⟩) hHeld ?_ ?_
    rotate_left
    · rintro w' hS'
      obtain ⟨s0, s1⟩ := hS'
      go_simp
      with_reducible rfl
    rotate_left
    · simp only [Act.put, List.setIfInBounds_toArray, List.set_cons_zero, List.set_cons_succ, i64_w, i32_w]
      rfl
    refine take_ (i := 1) (N := some 19) (v := ?_) (a' := ?_) #[true, true, true, false, false, false, true, true, false] rfl rfl (by kernel_rfl) (fun _ _ _ h => h) (Or.inl ⟨by rfl, ?_⟩) hHeld ?_ ?_
    rotate_left
    · rintro w' hS'
      obtain ⟨s0, s1⟩ := hS'
      go_simp
      with_reducible rfl
    rotate_left
    · simp only [Act.put, List.setIfInBounds_toArray, List.set_cons_zero, List.set_cons_succ, i64_w, i32_w]
      rfl
    refine take_ (i := 3) (N := some 21) (v := ?_) (a' := ?_) #[true, true, true, true, false, false, true, true, false] rfl rfl (by kernel_rfl) (fun _ _ _ h => h) (Or.inl ⟨by rfl, ?_⟩) hHeld ?_ ?_
    rotate_left
    · rintro w' hS'
      obtain ⟨s0, s1⟩ := hS'
      go_simp
      with_reducible rfl
    rotate_left
    · simp only [Act.put, List.setIfInBounds_toArray, List.set_cons_zero, List.set_cons_succ, i64_w, i32_w]
      rfl
    refine one_ (i := 4) (N := some 22) #[true, true, true, true, true, false, true, true, false] rfl rfl (by kernel_rfl) (by decide) (fun K hK => ?_)
    obtain ⟨t1437, HA1438, H⟩ := bind_some H
    refine goes_ Tryd.func81 (by kernel_rfl) rfl #[.pointer (some ⟨g1197, 0, none⟩), .int .i64 a1190] (by rfl) rfl rfl (by (try simp only [List.map_toArray, List.map_cons, List.map_nil]); first | done | rfl) ?_
    refine (ground_Ground_Reg.calls t1421.2.2 t1421.2.1 a1207 a1208 a1209 a1210 a1190 g1197 g1199 A1202 l1201.length n1204 t1437 _ ⟨HGl0.out.pass HS.out⟩ ⟨HS.out.begin⟩ HA1438).mono ?_
    rintro e_ w1439 ⟨rfl, hS⟩
    replace HS : Aside0 (Sep FF w [b7 g1197 g1199 a1207 a1208 a1209 a1210, b6 g1199 A1202 l1201.length n1204 t1437.2, r5 A1202 l1201.length n1204 t1421.2.2, b9 g1195 g1197, b10 g1212 a1213, b8 g1416 a1189 a1190 a1191] w1439) := ⟨HS.out.call hS⟩
    clear hS
    refine ⟨_, rfl, ?_⟩
    refine hK.out _ _ (⟨blk_cellv (HS.out.at3) 0 rfl, blk_cellv (HS.out.at5) 1 rfl⟩) (fun hHeld => ?_)
    clear hK K
    refine norm_ (a' := ?_) ?_ ?_
    rotate_left
    · show Act.put _ (some 22) _ = _
      simp only [Act.put, List.setIfInBounds_toArray, List.set_cons_zero, List.set_cons_succ, i64_w, i32_w]
      rfl
    refine pure_ (i := 5) (N := some 23) (v := ?_) (a' := ?_) #[true, true, true, true, true, true, true, true, false] rfl rfl (by kernel_rfl) (fun _ _ _ h => h) (Or.inl ⟨by rfl, ?_⟩) ?_ ?_
    rotate_left
    · intro w'
      go_simp
      with_reducible rfl
    rotate_left
    · simp only [Act.put, List.setIfInBounds_toArray, List.set_cons_zero, List.set_cons_succ, i64_w, i32_w]
      rfl
    refine one_ (i := 8) (N := some 26) #[true, true, true, true, true, true, true, true, true] rfl rfl (by kernel_rfl) (by decide) (fun K hK => ?_)
    obtain ⟨t1440, HA1441, H⟩ := bind_some H
    refine goes_ Tryd.func17 (by kernel_rfl) rfl #[.pointer (some ⟨g1197, 0, none⟩), .int .i64 (wrap64 (t1437.1 - 1)), .int .i64 5, .int .u32 ((a1192) % 4294967296)] (by rfl) rfl rfl (by (try simp only [List.map_toArray, List.map_cons, List.map_nil]); first | done | rfl) ?_
    refine (ground_Ground_SetWord.calls t1421.2.2 t1437.2 a1207 a1208 a1209 a1210 (wrap64 (t1437.1 - 1)) 5 ((a1192) % 4294967296) g1197 g1199 A1202 l1201.length n1204 t1440 _ ⟨HGl0.out.pass HS.out⟩ ⟨HS.out.begin⟩ HA1441).mono ?_
    rintro e_ w1442 ⟨rfl, hS⟩
    replace HS : Aside0 (Sep FF w [b7 g1197 g1199 a1207 a1208 a1209 a1210, b6 g1199 A1202 l1201.length n1204 t1440.2.1, r5 A1202 l1201.length n1204 t1440.2.2, b9 g1195 g1197, b10 g1212 a1213, b8 g1416 a1189 a1190 a1191] w1442) := ⟨HS.out.call hS⟩
    clear hS
    refine ⟨_, rfl, ?_⟩
    refine hK.out _ _ (⟨blk_cellv (HS.out.at3) 0 rfl, blk_cellv (HS.out.at5) 1 rfl⟩) (fun hHeld => ?_)
    clear hK K
    refine norm_ (a' := ?_) ?_ ?_
    rotate_left
    · show Act.put _ (some 26) _ = _
      simp only [Act.put, List.setIfInBounds_toArray, List.set_cons_zero, List.set_cons_succ, i64_w, i32_w]
      rfl
    refine done_ (by kernel_rfl) ?_
    have hc1443 : w1442.cell? ⟨g1195, 0, none⟩ = some (.pointer (some ⟨g1197, 0, none⟩)) := blk_cellv (HS.out.at3) 0 rfl
    have hc1444 : w1442.cell? ⟨g1416, 1, none⟩ = some (.int .i64 a1190) := blk_cellv (HS.out.at5) 1 rfl
    go_wp2_with fail
    clear hc1443 hc1444
    obtain ⟨t1432, HA1445, H⟩ := bind_some H
    refine (ground_Ground_SetReg.calls t1440.2.2 t1440.2.1 a1207 a1208 a1209 a1210 a1190 a1192 g1197 g1199 A1202 l1201.length n1204 t1432 _ ⟨HGl0.out.pass HS.out⟩ ⟨HS.out.begin⟩ HA1445).mono ?_
    rintro e_ w1446 ⟨rfl, hS⟩
    replace HS : Aside0 (Sep FF w [b7 g1197 g1199 a1207 a1208 a1209 a1210, b6 g1199 A1202 l1201.length n1204 t1432.2.1, r5 A1202 l1201.length n1204 t1432.2.2, b9 g1195 g1197, b10 g1212 a1213, b8 g1416 a1189 a1190 a1191] w1446) := ⟨HS.out.call hS⟩
    clear hS
    replace HS : Aside0 (Sep FF w [b7 g1197 g1199 a1207 a1208 a1209 a1210, b6 g1199 A1202 l1201.length n1204 t1432.2.1, r5 A1202 l1201.length n1204 t1432.2.2, b9 g1195 g1197, b10 g1212 a1213] w1446) := ⟨HS.out.sub (.cons_cons _ (.cons_cons _ (.cons_cons _ (.cons_cons _ (.cons_cons _ (.cons _ .slnil))))))⟩
    go_wp2_with fail
    first | go_end0 | refine bodyPost_ret (results_none rfl _ _ _) rfl ?_
    rw [← some_eq H]
    exact ⟨rfl, ((((((HS.out).front 4 (by simp)).front 3 (by simp)).front 3 (by simp)).front 3 (by simp)).front 4 (by simp)).keep (l := [b9 g1195 g1197, b7 g1197 g1199 a1207 a1208 a1209 a1210, b6 g1199 A1202 l1201.length n1204 t1432.2.1, r5 A1202 l1201.length n1204 t1432.2.2, b10 g1212 a1213]) (rest := [])⟩
end Go.Proofs.YtobeonkddamnoaaDoor.C

/- Each function of the group RP does what its plain function says, and changes nothing that was there; proved by walking its code. No condition. -/
import Derived.Test.YtobeonkddamnoaaDoorQw
import Derived.Test.YtobeonkddamnoaaDoorMRP
namespace Go.Proofs.YtobeonkddamnoaaDoor.C
open Go.RowKit Go.Proofs.YtobeonkddamnoaaDoorW.PrintWords Go.Proofs.YtobeonkddamnoaaDoorW.PrintLast Go.Proofs.YtobeonkddamnoaaDoor.Q Go.Proofs.YtobeonkddamnoaaDoor.M
set_option linter.unusedVariables false
set_option linter.unusedSimpArgs false
def b1 (g : Nat) (x0 : Int) (x1 : Int) (x2 : Int) (x3 : Int) (x4 : Int) (x5 : Int) : Ob := blk g #[.int .u8 x0, .int .u8 x1, .int .u8 x2, .int .u8 x3, .int .u8 x4, .int .u8 x5] 5
def b2 (g : Nat) (x0 : Int) (x1 : Int) (x2 : Int) (x3 : Int) : Ob := blk g #[.int .i64 x0, .int .i64 x1, .int .i64 x2, .int .i64 x3] 30
def b3 (g : Nat) (x0 : Int) (x1 : Int) (x2 : Int) (x3 : Int) (x4 : Int) (x5 : Int) (x6 : Int) (x7 : Int) : Ob := blk g #[.int .i64 x0, .int .i64 x1, .int .i64 x2, .int .i64 x3, .int .i64 x4, .int .i64 x5, .int .i64 x6, .int .i64 x7] 97
def b4 (g : Nat) (x0 : Int) (x1 : Int) : Ob := blk g #[.int .i64 x0, .int .i64 x1] 3
def b5 (g : Nat) (x0 : Int) (x1 : Int) (x2 : Int) : Ob := blk g #[.int .i64 x0, .int .i64 x1, .int .i64 x2] 3
def r6 (A : Option Addr) (n c : Nat) (l : List Int) : Ob := row 33 (Value.int .u32) (.slice A n c) l
def b7 (g : Nat) (x0 : Option Addr) (x1 : Nat) (x2 : Nat) (x3 : Int) : Ob := blk g #[.slice x0 x1 x2, .int .u64 x3] 154
def b8 (g : Nat) (x0 : Nat) (x1 : Int) (x2 : Int) (x3 : Int) (x4 : Int) : Ob := blk g #[.pointer (some ⟨x0, 0, none⟩), .int .i64 x1, .int .i64 x2, .int .i64 x3, .int .i64 x4] 106
def b9 (g : Nat) (x0 : Int) (x1 : Int) (x2 : Int) (x3 : Int) (x4 : Int) (x5 : Int) (x6 : Int) : Ob := blk g #[.int .i64 x0, .int .i64 x1, .int .i64 x2, .int .i64 x3, .int .i64 x4, .int .i64 x5, .int .i64 x6] 32
def b10 (g : Nat) (x0 : Int) : Ob := blk g #[.int .u32 x0] 33
def b11 (g : Nat) (x0 : Int) (x1 : Int) (x2 : Int) (x3 : Int) (x4 : Int) : Ob := blk g #[.int .i64 x0, .int .i64 x1, .int .i64 x2, .int .i64 x3, .int .i64 x4] 108
def b12 (g : Nat) (x0 : Int) (x1 : Int) : Ob := blk g #[.int .u32 x0, .int .u32 x1] 33
def b13 (g : Nat) (x0 : Int) (x1 : Int) (x2 : Int) (x3 : Int) (x4 : Int) (x5 : Int) (x6 : Int) (x7 : Int) : Ob := blk g #[.int .i64 x0, .int .i64 x1, .int .i64 x2, .int .i64 x3, .int .i64 x4, .int .i64 x5, .int .i64 x6, .int .i64 x7] 3
def r14 (A : Option Addr) (n c : Nat) (l : List Int) : Ob := row 3 (Value.int .i64) (.slice A n c) l
def b15 (g : Nat) (x0 : Int) : Ob := blk g #[.int .i64 x0] 3
abbrev s16 : Kd (Int × Int) := (Kd.pair (Kd.int .u8) (Kd.int .i64))
theorem s16_at {F : Nat → Prop} {w W : World} {A : Option Addr} {n : Nat} {xs : List (Int × Int)} (h : Rd s16 F w A n xs) (hf : Fr F w W) (i : Int) (h0 : 0 ≤ i) (h1 : i < n) : ∃ ad, A = some ad ∧ W.cell? (ad.add (i.toNat * 2)) = some (.int .u8 ((rdOf (0, 0) xs i).1)) ∧ W.cell? ⟨(ad.add (i.toNat * 2)).block, (ad.add (i.toNat * 2)).off + 1, none⟩ = some (.int .i64 ((rdOf (0, 0) xs i).2)) := by
  obtain ⟨ad, c, e, hl, hk, hc⟩ := Rd.el h hf (0, 0) i h0 h1
  obtain ⟨_, _, rfl, rfl, rfl⟩ := hk
  exact ⟨ad, e, hc 0 _ rfl, hc 1 _ rfl⟩
def b17 (g : Nat) (x0 : Int) (x1 : Int) : Ob := blk g #[.int .u8 x0, .int .i64 x1] 54

set_option maxHeartbeats 30000000 in
set_option maxRecDepth 100000 in
theorem ratio_Clamp.calls (a53 : Int) (a54 : Int) (a55 : Int) (r : Int) (w : World)  (HGl0 : Aside0 (Gl 0 #[.int .i64 0, .int .i64 0, .int .i64 0, .int .i64 0, .int .i64 0] (fps []) w)) (HS : Aside0 (Sep (fps []) w [] w)) (H : Aside0 (ratio_Clamp.f a53 a54 a55 = some r)) :
    Calls Tryd.prog 157 #[.int .i64 a53, .int .i64 a54, .int .i64 a55] w fun e w' => e = .returned (.int .i64 r) ∧ Sep (fps []) w [] w' := by
  unfold ratio_Clamp.f at H
  go_enter Tryd.func157, Tryd.ntmps157
  by_cases c56 : a53 > a55
  · replace H := if_yes c56 H
    have c56b0 : decide (a55 < a53) = true := decide_eq_true c56
    clear c56
    go_wp2_with fail
    go_ret
    rw [← some_eq H]
    exact ⟨(by first | rfl | (simp [IntKind.wrap_u32]; done)), HS.out⟩
  · replace H := if_no c56 H
    have c56b0 : decide (a55 < a53) = false := decide_eq_false c56
    clear c56
    by_cases c57 : a53 < a54
    · replace H := if_yes c57 H
      have c57b0 : decide (a53 < a54) = true := decide_eq_true c57
      skip
      go_wp2_with fail
      clear c57
      go_ret
      rw [← some_eq H]
      exact ⟨(by first | rfl | (simp [IntKind.wrap_u32]; done)), HS.out⟩
    · replace H := if_no c57 H
      have c57b0 : decide (a53 < a54) = false := decide_eq_false c57
      skip
      go_wp2_with fail
      clear c57
      go_ret
      rw [← some_eq H]
      exact ⟨(by first | rfl | (simp [IntKind.wrap_u32]; done)), HS.out⟩

set_option maxHeartbeats 30000000 in
set_option maxRecDepth 100000 in
theorem plan_within.calls (a50 : Int) (a51 : Int) (a52 : Int) (r : Bool) (w : World)  (HGl0 : Aside0 (Gl 0 #[.int .i64 0, .int .i64 0, .int .i64 0, .int .i64 0, .int .i64 0] (fps []) w)) (HS : Aside0 (Sep (fps []) w [] w)) (H : Aside0 (plan_within.f a50 a51 a52 = some r)) :
    Calls Tryd.prog 147 #[.int .i64 a50, .int .i64 a51, .int .i64 a52] w fun e w' => e = .returned (.bool r) ∧ Sep (fps []) w [] w' := by
  unfold plan_within.f at H
  go_enter Tryd.func147, Tryd.ntmps147
  go_wp2_with fail
  obtain ⟨t58, HA59, H⟩ := bind_some H
  refine (ratio_Clamp.calls a50 a51 a52 t58 _ ⟨HGl0.out.pass (l := []) HS.out⟩ ⟨Sep.start _⟩ HA59).mono ?_
  rintro e_ w60 ⟨rfl, hS⟩
  replace HS : Aside0 (Sep (fps []) w [] w60) := ⟨HS.out.call hS⟩
  clear hS
  go_wp2_with fail
  go_ret
  rw [← some_eq H]
  exact ⟨(by first | rfl | (simp [IntKind.wrap_u32]; done)), HS.out⟩

set_option maxHeartbeats 30000000 in
set_option maxRecDepth 100000 in
theorem plan_Check.calls (a42 : Int) (a43 : Int) (a44 : Int) (a45 : Int) (r : Int) (w : World)  (HGl0 : Aside0 (Gl 0 #[.int .i64 0, .int .i64 0, .int .i64 0, .int .i64 0, .int .i64 0] (fps []) w)) (HS : Aside0 (Sep (fps []) w [] w)) (H : Aside0 (plan_Check.f a42 a43 a44 a45 = some r)) :
    Calls Tryd.prog 121 #[.agg #[.int .i64 a42, .int .i64 a43, .int .i64 a44, .int .i64 a45]] w fun e w' => e = .returned (.int .i64 r) ∧ Sep (fps []) w [] w' := by
  unfold plan_Check.f at H
  go_enter Tryd.func121, Tryd.ntmps121
  go_wp2_with (first | ((with_reducible refine gate_dst (N := 1) rfl ?_); refine box_on ?hg (N := 1) ?hd (cs := #[.int .i64 a42, .int .i64 a43, .int .i64 a44, .int .i64 a45]) (t := 30) ?hr ?_; (case hd => rfl); (case hg => rfl); (case hr => first | (go_simp; done) | (go_simp; rfl)); intro g46 hg w47 hbox hb; replace HS : Aside0 (Sep (fps []) w [b2 g46 a42 a43 a44 a45] w47) := ⟨HS.out.box hg hbox hb⟩; clear hg hbox hb; have hc49 : w47.cell? ⟨g46, 0, none⟩ = some (.int .i64 a42) := blk_cellv (HS.out.at0) 0 rfl))
  clear hc49
  obtain ⟨t61, HA62, H⟩ := bind_some H
  refine (plan_within.calls a42 1 1048576 t61 _ ⟨HGl0.out.pass (l := []) HS.out⟩ ⟨Sep.start _⟩ HA62).mono ?_
  rintro e_ w63 ⟨rfl, hS⟩
  replace HS : Aside0 (Sep (fps []) w [b2 g46 a42 a43 a44 a45] w63) := ⟨HS.out.call hS⟩
  clear hS
  by_cases c64 : t61 = true
  · replace H := if_yes c64 H
    have c64b0 : t61 = true := c64
    have c64b1 : (!t61) = false := by rw [c64b0]; rfl
    clear c64
    have hc65 : w63.cell? ⟨g46, 1, none⟩ = some (.int .i64 a43) := blk_cellv (HS.out.at0) 1 rfl
    go_wp2_with fail
    clear hc65
    obtain ⟨t66, HA67, H⟩ := bind_some H
    refine (plan_within.calls a43 16 256 t66 _ ⟨HGl0.out.pass (l := []) HS.out⟩ ⟨Sep.start _⟩ HA67).mono ?_
    rintro e_ w68 ⟨rfl, hS⟩
    replace HS : Aside0 (Sep (fps []) w [b2 g46 a42 a43 a44 a45] w68) := ⟨HS.out.call hS⟩
    clear hS
    by_cases c69 : t66 = true
    · replace H := if_yes c69 H
      have c69b0 : t66 = true := c69
      have c69b1 : (!t66) = false := by rw [c69b0]; rfl
      clear c69
      have hc70 : w68.cell? ⟨g46, 2, none⟩ = some (.int .i64 a44) := blk_cellv (HS.out.at0) 2 rfl
      go_wp2_with fail
      clear hc70
      obtain ⟨t71, HA72, H⟩ := bind_some H
      refine (plan_within.calls a44 1 4096 t71 _ ⟨HGl0.out.pass (l := []) HS.out⟩ ⟨Sep.start _⟩ HA72).mono ?_
      rintro e_ w73 ⟨rfl, hS⟩
      replace HS : Aside0 (Sep (fps []) w [b2 g46 a42 a43 a44 a45] w73) := ⟨HS.out.call hS⟩
      clear hS
      by_cases c74 : t71 = true
      · replace H := if_yes c74 H
        have c74b0 : t71 = true := c74
        have c74b1 : (!t71) = false := by rw [c74b0]; rfl
        clear c74
        have hc75 : w73.cell? ⟨g46, 3, none⟩ = some (.int .i64 a45) := blk_cellv (HS.out.at0) 3 rfl
        go_wp2_with fail
        clear hc75
        obtain ⟨t76, HA77, H⟩ := bind_some H
        refine (plan_within.calls a45 1 65536 t76 _ ⟨HGl0.out.pass (l := []) HS.out⟩ ⟨Sep.start _⟩ HA77).mono ?_
        rintro e_ w78 ⟨rfl, hS⟩
        replace HS : Aside0 (Sep (fps []) w [b2 g46 a42 a43 a44 a45] w78) := ⟨HS.out.call hS⟩
        clear hS
        by_cases c79 : t76 = true
        · replace H := if_yes c79 H
          have c79b0 : t76 = true := c79
          have c79b1 : (!t76) = false := by rw [c79b0]; rfl
          clear c79
          by_cases c82 : (wrap64 (a42 * a43)) ≤ 4194304
          · replace H := if_yes c82 H
            have c82b0 : decide ((wrap64 (a42 * a43)) ≤ 4194304) = true := decide_eq_true c82
            clear c82
            have hc80 : w78.cell? ⟨g46, 0, none⟩ = some (.int .i64 a42) := blk_cellv (HS.out.at0) 0 rfl
            have hc81 : w78.cell? ⟨g46, 1, none⟩ = some (.int .i64 a43) := blk_cellv (HS.out.at0) 1 rfl
            replace HS : Aside0 (Sep (fps []) w [] w78) := ⟨HS.out.sub (.cons _ .slnil)⟩
            go_wp2_with fail
            clear hc80 hc81
            go_ret
            rw [← some_eq H]
            exact ⟨(by first | rfl | (simp [IntKind.wrap_u32]; done)), HS.out⟩
          · replace H := if_no c82 H
            have c82b0 : decide ((wrap64 (a42 * a43)) ≤ 4194304) = false := decide_eq_false c82
            clear c82
            have hc80 : w78.cell? ⟨g46, 0, none⟩ = some (.int .i64 a42) := blk_cellv (HS.out.at0) 0 rfl
            have hc81 : w78.cell? ⟨g46, 1, none⟩ = some (.int .i64 a43) := blk_cellv (HS.out.at0) 1 rfl
            replace HS : Aside0 (Sep (fps []) w [] w78) := ⟨HS.out.sub (.cons _ .slnil)⟩
            go_wp2_with fail
            clear hc80 hc81
            go_ret
            rw [← some_eq H]
            exact ⟨(by first | rfl | (simp [IntKind.wrap_u32]; done)), HS.out⟩
        · replace H := if_no c79 H
          have c79b0 : t76 = false := by simpa using c79
          have c79b1 : (!t76) = true := by rw [c79b0]; rfl
          clear c79
          replace HS : Aside0 (Sep (fps []) w [] w78) := ⟨HS.out.sub (.cons _ .slnil)⟩
          go_wp2_with fail
          go_ret
          rw [← some_eq H]
          exact ⟨(by first | rfl | (simp [IntKind.wrap_u32]; done)), HS.out⟩
      · replace H := if_no c74 H
        have c74b0 : t71 = false := by simpa using c74
        have c74b1 : (!t71) = true := by rw [c74b0]; rfl
        clear c74
        replace HS : Aside0 (Sep (fps []) w [] w73) := ⟨HS.out.sub (.cons _ .slnil)⟩
        go_wp2_with fail
        go_ret
        rw [← some_eq H]
        exact ⟨(by first | rfl | (simp [IntKind.wrap_u32]; done)), HS.out⟩
    · replace H := if_no c69 H
      have c69b0 : t66 = false := by simpa using c69
      have c69b1 : (!t66) = true := by rw [c69b0]; rfl
      clear c69
      replace HS : Aside0 (Sep (fps []) w [] w68) := ⟨HS.out.sub (.cons _ .slnil)⟩
      go_wp2_with fail
      go_ret
      rw [← some_eq H]
      exact ⟨(by first | rfl | (simp [IntKind.wrap_u32]; done)), HS.out⟩
  · replace H := if_no c64 H
    have c64b0 : t61 = false := by simpa using c64
    have c64b1 : (!t61) = true := by rw [c64b0]; rfl
    clear c64
    replace HS : Aside0 (Sep (fps []) w [] w63) := ⟨HS.out.sub (.cons _ .slnil)⟩
    go_wp2_with fail
    go_ret
    rw [← some_eq H]
    exact ⟨(by first | rfl | (simp [IntKind.wrap_u32]; done)), HS.out⟩

set_option maxHeartbeats 30000000 in
set_option maxRecDepth 100000 in
theorem ratio_counts.calls (a115 : Int) (r : Int) (w : World)  (HGl0 : Aside0 (Gl 0 #[.int .i64 0, .int .i64 0, .int .i64 0, .int .i64 0, .int .i64 0] (fps []) w)) (HS : Aside0 (Sep (fps []) w [] w)) (H : Aside0 (ratio_counts.f a115 = some r)) :
    Calls Tryd.prog 148 #[.int .i64 a115] w fun e w' => e = .returned (.int .i64 r) ∧ Sep (fps []) w [] w' := by
  unfold ratio_counts.f at H
  go_enter Tryd.func148, Tryd.ntmps148
  go_wp2_with fail
  obtain ⟨t116, HA117, H⟩ := bind_some H
  refine (ratio_Clamp.calls a115 0 1125899906842624 t116 _ ⟨HGl0.out.pass (l := []) HS.out⟩ ⟨Sep.start _⟩ HA117).mono ?_
  rintro e_ w118 ⟨rfl, hS⟩
  replace HS : Aside0 (Sep (fps []) w [] w118) := ⟨HS.out.call hS⟩
  clear hS
  go_wp2_with fail
  go_ret
  rw [← some_eq H]
  exact ⟨(by first | rfl | (simp [IntKind.wrap_u32]; done)), HS.out⟩

set_option maxHeartbeats 30000000 in
set_option maxRecDepth 100000 in
theorem ratio_zero.calls (a114 : Int) (r : Bool) (w : World)  (HGl0 : Aside0 (Gl 0 #[.int .i64 0, .int .i64 0, .int .i64 0, .int .i64 0, .int .i64 0] (fps []) w)) (HS : Aside0 (Sep (fps []) w [] w)) (H : Aside0 (ratio_zero.f a114 = some r)) :
    Calls Tryd.prog 150 #[.int .i64 a114] w fun e w' => e = .returned (.bool r) ∧ Sep (fps []) w [] w' := by
  unfold ratio_zero.f at H
  go_enter Tryd.func150, Tryd.ntmps150
  go_wp2_with fail
  obtain ⟨t119, HA120, H⟩ := bind_some H
  refine (ratio_counts.calls a114 t119 _ ⟨HGl0.out.pass (l := []) HS.out⟩ ⟨Sep.start _⟩ HA120).mono ?_
  rintro e_ w121 ⟨rfl, hS⟩
  replace HS : Aside0 (Sep (fps []) w [] w121) := ⟨HS.out.call hS⟩
  clear hS
  go_wp2_with fail
  go_ret
  rw [← some_eq H]
  exact ⟨(by first | rfl | (simp [IntKind.wrap_u32]; done)), HS.out⟩

set_option maxHeartbeats 30000000 in
set_option maxRecDepth 100000 in
theorem slices_IndexFunc_int_int_F150.calls (k : Nat) (l100 : List Int) (A101 : Option Addr) (n102 : Nat) (r : Int) (w : World) (HR103 : Aside0 (Rd (Kd.int .i64) (fps []) w A101 l100.length l100)) (HGl0 : Aside0 (Gl 0 #[.int .i64 0, .int .i64 0, .int .i64 0, .int .i64 0, .int .i64 0] (fps []) w)) (HS : Aside0 (Sep (fps []) w [] w)) (H : Aside0 (slices_IndexFunc_int_int_F150.f k l100 = some r)) :
    Calls Tryd.prog 158 #[.slice A101 l100.length n102, .func (.func 150) #[] #[]] w fun e w' => e = .returned (.int .i64 r) ∧ Sep (fps []) w [] w' := by
  unfold slices_IndexFunc_int_int_F150.f at H
  go_enter Tryd.func158, Tryd.ntmps158
  go_wp2_with fail
  obtain ⟨o126, AL127, H⟩ := bind_some H
  go_loopg [8] k (fun kq v8 wc => ∃ (x130 : Int), v8 = .int .i64 x130 ∧ Aside0 (slices_IndexFunc_int_int_F150.lo0 kq l100 x130 = some o126) ∧ Aside0 (Sep (fps []) w [] wc))
  case atStart => exact ⟨(0), (by first | rfl | (simp [IntKind.wrap_u32]; done)), AL127, ⟨HS.out⟩⟩
  case round =>
    clear AL127 HS
    obtain ⟨x130, rfl, AL127, HS⟩ := hrel
    obtain ⟨w128, rfl⟩ : ∃ x : World, x = wr := ⟨_, rfl⟩
    cases gk with
    | zero => exact absurd AL127.out (by simp [slices_IndexFunc_int_int_F150.lo0])
    | succ k129 =>
      have AL0 := AL127.out
      rw [slices_IndexFunc_int_int_F150.lo0] at AL0
      clear AL127
      have AL127 := Aside0.mk AL0
      clear AL0
      by_cases c131 : x130 < (l100.length : Int)
      · replace AL127 := if_yes c131 AL127
        have c131b0 : decide (x130 < (l100.length : Int)) = true := decide_eq_true c131
        clear c131
        by_cases c132 : 0 ≤ x130
        · replace AL127 := if_yes c132 AL127
          have c132b0 : decide (0 ≤ x130) = true := decide_eq_true c132
          have c132p : (0 ≤ x130) = True := eq_true c132
          clear c132
          have ip133 : (x130 < (l100.length : Int)) = True := eq_true (of_decide_eq_true c131b0)
          obtain ⟨hx134a, hx134e, hx134⟩ := Kd.at_int (Rd.read (fun _ _ _ _ h => h) HR103.out HS.out.fr) x130 (of_decide_eq_true c132b0) (of_decide_eq_true c131b0); cases hx134e
          go_wp2_with fail
          clear hx134
          obtain ⟨t122, HA135, AL127⟩ := bind_some AL127
          refine (ratio_zero.calls (rd l100 x130) t122 _ ⟨HGl0.out.pass (l := []) HS.out⟩ ⟨Sep.start _⟩ HA135).mono ?_
          rintro e_ w136 ⟨rfl, hS⟩
          replace HS : Aside0 (Sep (fps []) w [] w136) := ⟨HS.out.call hS⟩
          clear hS
          by_cases c137 : t122 = true
          · replace AL127 := if_yes c137 AL127
            have c137b0 : t122 = true := c137
            have c137b1 : (!t122) = false := by rw [c137b0]; rfl
            clear c137
            go_wp2_with fail
            have ho := some_eq AL127
            subst ho
            have H := lp_ret H
            go_ret
            rw [← some_eq H]
            exact ⟨(by first | rfl | (simp [IntKind.wrap_u32]; done)), HS.out⟩
          · replace AL127 := if_no c137 AL127
            have c137b0 : t122 = false := by simpa using c137
            have c137b1 : (!t122) = true := by rw [c137b0]; rfl
            clear c137
            go_wp2_with fail
            go_roundg k129
            case measure => exact Nat.lt_succ_self _
            case rel => exact ⟨(wrap64 (x130 + 1)), (by first | rfl | (simp [IntKind.wrap_u32]; done)), Aside0.mk AL127.out, ⟨HS.out⟩⟩
        · replace AL127 := if_no c132 AL127
          have c132b0 : decide (0 ≤ x130) = false := decide_eq_false c132
          clear c132
          exact (none_no AL127).elim
      · replace AL127 := if_no c131 AL127
        have c131b0 : decide (x130 < (l100.length : Int)) = false := decide_eq_false c131
        clear c131
        have ho := some_eq AL127
        subst ho
        clear AL127
        have H := lp_out H
        go_wp2_with fail
        go_ret
        rw [← some_eq H]
        exact ⟨(by first | rfl | (simp [IntKind.wrap_u32]; done)), HS.out⟩

set_option maxHeartbeats 30000000 in
set_option maxRecDepth 100000 in
theorem slices_ContainsFunc_int_int_F150.calls (k : Nat) (l96 : List Int) (A97 : Option Addr) (n98 : Nat) (r : Bool) (w : World) (HR99 : Aside0 (Rd (Kd.int .i64) (fps []) w A97 l96.length l96)) (HGl0 : Aside0 (Gl 0 #[.int .i64 0, .int .i64 0, .int .i64 0, .int .i64 0, .int .i64 0] (fps []) w)) (HS : Aside0 (Sep (fps []) w [] w)) (H : Aside0 (slices_ContainsFunc_int_int_F150.f k l96 = some r)) :
    Calls Tryd.prog 149 #[.slice A97 l96.length n98, .func (.func 150) #[] #[]] w fun e w' => e = .returned (.bool r) ∧ Sep (fps []) w [] w' := by
  unfold slices_ContainsFunc_int_int_F150.f at H
  go_enter Tryd.func149, Tryd.ntmps149
  go_wp2_with fail
  obtain ⟨t139, HA140, H⟩ := bind_some H
  refine (slices_IndexFunc_int_int_F150.calls _ l96 A97 n98 t139 _ ⟨Rd.pass (l := []) (by decide) (fun _ _ _ _ h => h) HR99.out HS.out⟩ ⟨HGl0.out.pass (l := []) HS.out⟩ ⟨Sep.start _⟩ HA140).mono ?_
  rintro e_ w141 ⟨rfl, hS⟩
  replace HS : Aside0 (Sep (fps []) w [] w141) := ⟨HS.out.call hS⟩
  clear hS
  go_wp2_with fail
  go_ret
  rw [← some_eq H]
  exact ⟨(by first | rfl | (simp [IntKind.wrap_u32]; done)), HS.out⟩

set_option maxHeartbeats 30000000 in
set_option maxRecDepth 100000 in
theorem ratio_Mul.calls (k : Nat) (l92 : List Int) (A93 : Option Addr) (n94 : Nat) (r : Int) (w : World) (HR95 : Aside0 (Rd (Kd.int .i64) (fps []) w A93 l92.length l92)) (HGl0 : Aside0 (Gl 0 #[.int .i64 0, .int .i64 0, .int .i64 0, .int .i64 0, .int .i64 0] (fps []) w)) (HS : Aside0 (Sep (fps []) w [] w)) (H : Aside0 (ratio_Mul.f k l92 = some r)) :
    Calls Tryd.prog 123 #[.slice A93 l92.length n94] w fun e w' => e = .returned (.int .i64 r) ∧ Sep (fps []) w [] w' := by
  unfold ratio_Mul.f at H
  go_enter Tryd.func123, Tryd.ntmps123
  go_wp2_with fail
  obtain ⟨t142, HA143, H⟩ := bind_some H
  refine (slices_ContainsFunc_int_int_F150.calls _ l92 A93 n94 t142 _ ⟨Rd.pass (l := []) (by decide) (fun _ _ _ _ h => h) HR95.out HS.out⟩ ⟨HGl0.out.pass (l := []) HS.out⟩ ⟨Sep.start _⟩ HA143).mono ?_
  rintro e_ w144 ⟨rfl, hS⟩
  replace HS : Aside0 (Sep (fps []) w [] w144) := ⟨HS.out.call hS⟩
  clear hS
  by_cases c145 : t142 = true
  · replace H := if_yes c145 H
    have c145b0 : t142 = true := c145
    have c145b1 : (!t142) = false := by rw [c145b0]; rfl
    clear c145
    go_wp2_with fail
    go_ret
    rw [← some_eq H]
    exact ⟨(by first | rfl | (simp [IntKind.wrap_u32]; done)), HS.out⟩
  · replace H := if_no c145 H
    have c145b0 : t142 = false := by simpa using c145
    have c145b1 : (!t142) = true := by rw [c145b0]; rfl
    clear c145
    go_wp2_with fail
    obtain ⟨o147, AL148, H⟩ := bind_some H
    go_loopg [3, 11] k (fun kq v3 v11 wc => ∃ (x151 : Int) (x152 : Int), v3 = .int .i64 x151 ∧ v11 = .int .i64 x152 ∧ Aside0 (ratio_Mul.lo0 kq l92 x151 x152 = some o147) ∧ Aside0 (Sep (fps []) w [] wc))
    case atStart => exact ⟨(1), (0), (by first | rfl | (simp [IntKind.wrap_u32]; done)), (by first | rfl | (simp [IntKind.wrap_u32]; done)), AL148, ⟨HS.out⟩⟩
    case round =>
      clear AL148 HS
      obtain ⟨x151, x152, rfl, rfl, AL148, HS⟩ := hrel
      obtain ⟨w149, rfl⟩ : ∃ x : World, x = wr := ⟨_, rfl⟩
      cases gk with
      | zero => exact absurd AL148.out (by simp [ratio_Mul.lo0])
      | succ k150 =>
        have AL0 := AL148.out
        rw [ratio_Mul.lo0] at AL0
        clear AL148
        have AL148 := Aside0.mk AL0
        clear AL0
        by_cases c153 : x152 < (l92.length : Int)
        · replace AL148 := if_yes c153 AL148
          have c153b0 : decide (x152 < (l92.length : Int)) = true := decide_eq_true c153
          clear c153
          by_cases c154 : 0 ≤ x152
          · replace AL148 := if_yes c154 AL148
            have c154b0 : decide (0 ≤ x152) = true := decide_eq_true c154
            have c154p : (0 ≤ x152) = True := eq_true c154
            clear c154
            have ip155 : (x152 < (l92.length : Int)) = True := eq_true (of_decide_eq_true c153b0)
            obtain ⟨hx156a, hx156e, hx156⟩ := Kd.at_int (Rd.read (fun _ _ _ _ h => h) HR95.out HS.out.fr) x152 (of_decide_eq_true c154b0) (of_decide_eq_true c153b0); cases hx156e
            go_wp2_with fail
            clear hx156
            obtain ⟨t157, HA158, AL148⟩ := bind_some AL148
            refine (ratio_counts.calls (rd l92 x152) t157 _ ⟨HGl0.out.pass (l := []) HS.out⟩ ⟨Sep.start _⟩ HA158).mono ?_
            rintro e_ w159 ⟨rfl, hS⟩
            replace HS : Aside0 (Sep (fps []) w [] w159) := ⟨HS.out.call hS⟩
            clear hS
            by_cases c160 : t157 = 0
            · replace AL148 := if_yes c160 AL148
              have c160b0 : (t157 == 0) = true := beq_iff_eq.mpr c160
              have c160b1 : (t157 != 0) = false := bne_eq_false_iff_eq.mpr c160
              exact (none_no AL148).elim
            · replace AL148 := if_no c160 AL148
              have c160b0 : (t157 == 0) = false := beq_eq_false_iff_ne.mpr c160
              have c160b1 : (t157 != 0) = true := bne_iff_ne.mpr c160
              by_cases c161 : x151 ≤ (wrap64 (Int.tdiv (1125899906842624 : Int) t157))
              · replace AL148 := if_yes c161 AL148
                have c161b0 : decide (x151 ≤ (wrap64 (Int.tdiv (1125899906842624 : Int) t157))) = true := decide_eq_true c161
                clear c161
                skip
                go_wp2_with fail
                clear c160
                go_roundg k150
                case measure => exact Nat.lt_succ_self _
                case rel => exact ⟨(wrap64 (x151 * t157)), (wrap64 (x152 + 1)), (by first | rfl | (simp [IntKind.wrap_u32]; done)), (by first | rfl | (simp [IntKind.wrap_u32]; done)), Aside0.mk AL148.out, ⟨HS.out⟩⟩
              · replace AL148 := if_no c161 AL148
                have c161b0 : decide (x151 ≤ (wrap64 (Int.tdiv (1125899906842624 : Int) t157))) = false := decide_eq_false c161
                clear c161
                skip
                go_wp2_with fail
                clear c160
                go_roundg k150
                case measure => exact Nat.lt_succ_self _
                case rel => exact ⟨(1125899906842624), (wrap64 (x152 + 1)), (by first | rfl | (simp [IntKind.wrap_u32]; done)), (by first | rfl | (simp [IntKind.wrap_u32]; done)), Aside0.mk AL148.out, ⟨HS.out⟩⟩
          · replace AL148 := if_no c154 AL148
            have c154b0 : decide (0 ≤ x152) = false := decide_eq_false c154
            clear c154
            exact (none_no AL148).elim
        · replace AL148 := if_no c153 AL148
          have c153b0 : decide (x152 < (l92.length : Int)) = false := decide_eq_false c153
          clear c153
          have ho := some_eq AL148
          subst ho
          clear AL148
          go_wp2_with fail
          go_ret
          rw [← some_eq H]
          exact ⟨(by first | rfl | (simp [IntKind.wrap_u32]; done)), HS.out⟩

set_option maxHeartbeats 30000000 in
set_option maxRecDepth 100000 in
theorem ratio_Add.calls (k : Nat) (l169 : List Int) (A170 : Option Addr) (n171 : Nat) (r : Int) (w : World) (HR172 : Aside0 (Rd (Kd.int .i64) (fps []) w A170 l169.length l169)) (HGl0 : Aside0 (Gl 0 #[.int .i64 0, .int .i64 0, .int .i64 0, .int .i64 0, .int .i64 0] (fps []) w)) (HS : Aside0 (Sep (fps []) w [] w)) (H : Aside0 (ratio_Add.f k l169 = some r)) :
    Calls Tryd.prog 122 #[.slice A170 l169.length n171] w fun e w' => e = .returned (.int .i64 r) ∧ Sep (fps []) w [] w' := by
  unfold ratio_Add.f at H
  go_enter Tryd.func122, Tryd.ntmps122
  go_wp2_with fail
  obtain ⟨o174, AL175, H⟩ := bind_some H
  go_loopg [3, 8] k (fun kq v3 v8 wc => ∃ (x178 : Int) (x179 : Int), v3 = .int .i64 x178 ∧ v8 = .int .i64 x179 ∧ Aside0 (ratio_Add.lo0 kq l169 x178 x179 = some o174) ∧ Aside0 (Sep (fps []) w [] wc))
  case atStart => exact ⟨(0), (0), (by first | rfl | (simp [IntKind.wrap_u32]; done)), (by first | rfl | (simp [IntKind.wrap_u32]; done)), AL175, ⟨HS.out⟩⟩
  case round =>
    clear AL175 HS
    obtain ⟨x178, x179, rfl, rfl, AL175, HS⟩ := hrel
    obtain ⟨w176, rfl⟩ : ∃ x : World, x = wr := ⟨_, rfl⟩
    cases gk with
    | zero => exact absurd AL175.out (by simp [ratio_Add.lo0])
    | succ k177 =>
      have AL0 := AL175.out
      rw [ratio_Add.lo0] at AL0
      clear AL175
      have AL175 := Aside0.mk AL0
      clear AL0
      by_cases c180 : x179 < (l169.length : Int)
      · replace AL175 := if_yes c180 AL175
        have c180b0 : decide (x179 < (l169.length : Int)) = true := decide_eq_true c180
        clear c180
        by_cases c181 : 0 ≤ x179
        · replace AL175 := if_yes c181 AL175
          have c181b0 : decide (0 ≤ x179) = true := decide_eq_true c181
          have c181p : (0 ≤ x179) = True := eq_true c181
          clear c181
          have ip182 : (x179 < (l169.length : Int)) = True := eq_true (of_decide_eq_true c180b0)
          obtain ⟨hx183a, hx183e, hx183⟩ := Kd.at_int (Rd.read (fun _ _ _ _ h => h) HR172.out HS.out.fr) x179 (of_decide_eq_true c181b0) (of_decide_eq_true c180b0); cases hx183e
          go_wp2_with fail
          clear hx183
          obtain ⟨t184, HA185, AL175⟩ := bind_some AL175
          refine (ratio_counts.calls (rd l169 x179) t184 _ ⟨HGl0.out.pass (l := []) HS.out⟩ ⟨Sep.start _⟩ HA185).mono ?_
          rintro e_ w186 ⟨rfl, hS⟩
          replace HS : Aside0 (Sep (fps []) w [] w186) := ⟨HS.out.call hS⟩
          clear hS
          by_cases c187 : 1125899906842624 < (wrap64 (x178 + t184))
          · replace AL175 := if_yes c187 AL175
            have c187b0 : decide (1125899906842624 < (wrap64 (x178 + t184))) = true := decide_eq_true c187
            skip
            go_wp2_with fail
            clear c187
            go_roundg k177
            case measure => exact Nat.lt_succ_self _
            case rel => exact ⟨(1125899906842624), (wrap64 (x179 + 1)), (by first | rfl | (simp [IntKind.wrap_u32]; done)), (by first | rfl | (simp [IntKind.wrap_u32]; done)), Aside0.mk AL175.out, ⟨HS.out⟩⟩
          · replace AL175 := if_no c187 AL175
            have c187b0 : decide (1125899906842624 < (wrap64 (x178 + t184))) = false := decide_eq_false c187
            skip
            go_wp2_with fail
            clear c187
            go_roundg k177
            case measure => exact Nat.lt_succ_self _
            case rel => exact ⟨(wrap64 (x178 + t184)), (wrap64 (x179 + 1)), (by first | rfl | (simp [IntKind.wrap_u32]; done)), (by first | rfl | (simp [IntKind.wrap_u32]; done)), Aside0.mk AL175.out, ⟨HS.out⟩⟩
        · replace AL175 := if_no c181 AL175
          have c181b0 : decide (0 ≤ x179) = false := decide_eq_false c181
          clear c181
          exact (none_no AL175).elim
      · replace AL175 := if_no c180 AL175
        have c180b0 : decide (x179 < (l169.length : Int)) = false := decide_eq_false c180
        clear c180
        have ho := some_eq AL175
        subst ho
        clear AL175
        go_wp2_with fail
        go_ret
        rw [← some_eq H]
        exact ⟨(by first | rfl | (simp [IntKind.wrap_u32]; done)), HS.out⟩

set_option maxHeartbeats 30000000 in
set_option maxRecDepth 100000 in
theorem ratio_by.calls (a398 : Int) (r : Int) (w : World)  (HGl0 : Aside0 (Gl 0 #[.int .i64 0, .int .i64 0, .int .i64 0, .int .i64 0, .int .i64 0] (fps []) w)) (HS : Aside0 (Sep (fps []) w [] w)) (H : Aside0 (ratio_by.f a398 = some r)) :
    Calls Tryd.prog 151 #[.int .i64 a398] w fun e w' => e = .returned (.int .i64 r) ∧ Sep (fps []) w [] w' := by
  unfold ratio_by.f at H
  go_enter Tryd.func151, Tryd.ntmps151
  go_wp2_with fail
  obtain ⟨t399, HA400, H⟩ := bind_some H
  refine (ratio_counts.calls a398 t399 _ ⟨HGl0.out.pass (l := []) HS.out⟩ ⟨Sep.start _⟩ HA400).mono ?_
  rintro e_ w401 ⟨rfl, hS⟩
  replace HS : Aside0 (Sep (fps []) w [] w401) := ⟨HS.out.call hS⟩
  clear hS
  by_cases c402 : t399 < 1
  · replace H := if_yes c402 H
    have c402b0 : decide (t399 < 1) = true := decide_eq_true c402
    skip
    go_wp2_with fail
    clear c402
    go_ret
    rw [← some_eq H]
    exact ⟨(by first | rfl | (simp [IntKind.wrap_u32]; done)), HS.out⟩
  · replace H := if_no c402 H
    have c402b0 : decide (t399 < 1) = false := decide_eq_false c402
    skip
    go_wp2_with fail
    clear c402
    go_ret
    rw [← some_eq H]
    exact ⟨(by first | rfl | (simp [IntKind.wrap_u32]; done)), HS.out⟩

set_option maxHeartbeats 30000000 in
set_option maxRecDepth 100000 in
theorem ratio_Up.calls (a393 : Int) (a394 : Int) (r : Int) (w : World)  (HGl0 : Aside0 (Gl 0 #[.int .i64 0, .int .i64 0, .int .i64 0, .int .i64 0, .int .i64 0] (fps []) w)) (HS : Aside0 (Sep (fps []) w [] w)) (H : Aside0 (ratio_Up.f a393 a394 = some r)) :
    Calls Tryd.prog 124 #[.int .i64 a393, .int .i64 a394] w fun e w' => e = .returned (.int .i64 r) ∧ Sep (fps []) w [] w' := by
  unfold ratio_Up.f at H
  go_enter Tryd.func124, Tryd.ntmps124
  go_wp2_with fail
  obtain ⟨t395, HA396, H⟩ := bind_some H
  refine (ratio_counts.calls a393 t395 _ ⟨HGl0.out.pass (l := []) HS.out⟩ ⟨Sep.start _⟩ HA396).mono ?_
  rintro e_ w397 ⟨rfl, hS⟩
  replace HS : Aside0 (Sep (fps []) w [] w397) := ⟨HS.out.call hS⟩
  clear hS
  go_wp2_with fail
  obtain ⟨t403, HA404, H⟩ := bind_some H
  refine (ratio_by.calls a394 t403 _ ⟨HGl0.out.pass (l := []) HS.out⟩ ⟨Sep.start _⟩ HA404).mono ?_
  rintro e_ w405 ⟨rfl, hS⟩
  replace HS : Aside0 (Sep (fps []) w [] w405) := ⟨HS.out.call hS⟩
  clear hS
  go_wp2_with fail
  obtain ⟨t406, HA407, H⟩ := bind_some H
  refine (ratio_by.calls a394 t406 _ ⟨HGl0.out.pass (l := []) HS.out⟩ ⟨Sep.start _⟩ HA407).mono ?_
  rintro e_ w408 ⟨rfl, hS⟩
  replace HS : Aside0 (Sep (fps []) w [] w408) := ⟨HS.out.call hS⟩
  clear hS
  by_cases c409 : t406 = 0
  · replace H := if_yes c409 H
    have c409b0 : (t406 == 0) = true := beq_iff_eq.mpr c409
    have c409b1 : (t406 != 0) = false := bne_eq_false_iff_eq.mpr c409
    exact (none_no H).elim
  · replace H := if_no c409 H
    have c409b0 : (t406 == 0) = false := beq_eq_false_iff_ne.mpr c409
    have c409b1 : (t406 != 0) = true := bne_iff_ne.mpr c409
    skip
    go_wp2_with fail
    clear c409
    go_ret
    rw [← some_eq H]
    exact ⟨(by first | rfl | (simp [IntKind.wrap_u32]; done)), HS.out⟩

set_option maxHeartbeats 30000000 in
set_option maxRecDepth 100000 in
theorem plan_Of.calls (k : Nat) (a28 : Int) (a29 : Int) (a30 : Int) (a31 : Int) (r : Int × Int × Int × Int × Int × Int × Int × Int × Int) (w : World)  (HGl0 : Aside0 (Gl 0 #[.int .i64 0, .int .i64 0, .int .i64 0, .int .i64 0, .int .i64 0] (fps []) w)) (HS : Aside0 (Sep (fps []) w [] w)) (H : Aside0 (plan_Of.f k a28 a29 a30 a31 = some r)) :
    Calls Tryd.prog 65 #[.agg #[.int .i64 a28, .int .i64 a29, .int .i64 a30, .int .i64 a31]] w fun e w' => e = .returned (.tuple #[.agg #[.int .i64 r.1, .int .i64 r.2.1, .int .i64 r.2.2.1, .int .i64 r.2.2.2.1, .int .i64 r.2.2.2.2.1, .int .i64 r.2.2.2.2.2.1, .int .i64 r.2.2.2.2.2.2.1, .int .i64 r.2.2.2.2.2.2.2.1], .int .i64 r.2.2.2.2.2.2.2.2]) ∧ Sep (fps []) w [] w' := by
  unfold plan_Of.f at H
  go_enter Tryd.func65, Tryd.ntmps65
  go_wp2_with (first | ((with_reducible refine gate_dst (N := 1) rfl ?_); refine box_on ?hg (N := 1) ?hd (cs := #[.int .i64 a28, .int .i64 a29, .int .i64 a30, .int .i64 a31]) (t := 30) ?hr ?_; (case hd => rfl); (case hg => rfl); (case hr => first | (go_simp; done) | (go_simp; rfl)); intro g32 hg w33 hbox hb; replace HS : Aside0 (Sep (fps []) w [b2 g32 a28 a29 a30 a31] w33) := ⟨HS.out.box hg hbox hb⟩; clear hg hbox hb) | ((with_reducible refine gate_dst (N := 2) rfl ?_); refine box_on ?hg (N := 2) ?hd (cs := #[.int .i64 0, .int .i64 0, .int .i64 0, .int .i64 0, .int .i64 0, .int .i64 0, .int .i64 0, .int .i64 0]) (t := 97) ?hr ?_; (case hd => rfl); (case hg => rfl); (case hr => first | (go_simp; done) | (go_simp; rfl)); intro g35 hg w36 hbox hb; replace HS : Aside0 (Sep (fps []) w [b2 g32 a28 a29 a30 a31, b3 g35 0 0 0 0 0 0 0 0] w36) := ⟨HS.out.box hg hbox hb⟩; clear hg hbox hb; have hc38 : w36.cell? ⟨g32, 0, none⟩ = some (.int .i64 a28) := blk_cellv (HS.out.at0) 0 rfl; have hc39 : w36.cell? ⟨g32, 1, none⟩ = some (.int .i64 a29) := blk_cellv (HS.out.at0) 1 rfl; have hc40 : w36.cell? ⟨g32, 2, none⟩ = some (.int .i64 a30) := blk_cellv (HS.out.at0) 2 rfl; have hc41 : w36.cell? ⟨g32, 3, none⟩ = some (.int .i64 a31) := blk_cellv (HS.out.at0) 3 rfl))
  clear hc38 hc39 hc40 hc41
  obtain ⟨t83, HA84, H⟩ := bind_some H
  refine (plan_Check.calls a28 a29 a30 a31 t83 _ ⟨HGl0.out.pass (l := []) HS.out⟩ ⟨Sep.start _⟩ HA84).mono ?_
  rintro e_ w85 ⟨rfl, hS⟩
  replace HS : Aside0 (Sep (fps []) w [b2 g32 a28 a29 a30 a31, b3 g35 0 0 0 0 0 0 0 0] w85) := ⟨HS.out.call hS⟩
  clear hS
  by_cases c86 : t83 = 0
  · replace H := if_yes c86 H
    have c86b0 : (t83 == 0) = true := beq_iff_eq.mpr c86
    have c86b1 : (t83 != 0) = false := bne_eq_false_iff_eq.mpr c86
    clear c86
    go_wp2_with fail
    obtain ⟨t163, HA164, H⟩ := bind_some H
    obtain ⟨t189, HA190, H⟩ := bind_some H
    go_cut [5] (fun v5 wc => ∃ (g89 : Nat) (g166 : Nat) (g192 : Nat), v5 = .pointer (some ⟨g192, 0, none⟩) ∧ Aside0 (Sep (fps []) w [b2 g32 a28 a29 a30 a31, b3 g35 0 0 0 0 0 0 0 0, b4 g89 a28 a29, b5 g166 24 a30 t163, b3 g192 t189 (wrap64 (a29 - 8)) 0 0 0 0 0 0] wc))
    case first =>
      go_wp2_with fail
      refine start_ (n := 16) (S := (fun w' => w'.cell? ⟨g32, 2, none⟩ = some (.int .i64 a30) ∧ w'.cell? ⟨g32, 0, none⟩ = some (.int .i64 a28) ∧ w'.cell? ⟨g32, 1, none⟩ = some (.int .i64 a29))) (ds := []) #[false, false, false, false, false, false, false, false, false, false, false, false, false, false, false, false] (by kernel_rfl) rfl rfl (⟨blk_cellv ((HS.out.drew).at0) 2 rfl, blk_cellv ((HS.out.drew).at0) 0 rfl, blk_cellv ((HS.out.drew).at0) 1 rfl⟩) (fun hHeld => ?_)
      have HS_ := Aside0.mk HS.out.drew
      clear HS
      generalize World.drew _ = w214 at HS_ hHeld ⊢
      have HS := HS_
      clear HS_
      refine pure_ (i := 0) (N := some 12) (v := ?_) (a' := ?_) #[true, false, false, false, false, false, false, false, false, false, false, false, false, false, false, false] rfl rfl (by kernel_rfl) (fun _ _ _ h => h) (Or.inl ⟨by rfl, ?_⟩) ?_ ?_
      rotate_left
      · intro w'
        go_simp
        with_reducible rfl
      rotate_left
      · simp only [Act.put, List.setIfInBounds_toArray, List.set_cons_zero, List.set_cons_succ, i64_w, i32_w]
        rfl
      refine pure_ (i := 2) (N := some 14) (v := ?_) (a' := ?_) #[true, false, true, false, false, false, false, false, false, false, false, false, false, false, false, false] rfl rfl (by kernel_rfl) (fun _ _ _ h => h) (Or.inl ⟨by rfl, ?_⟩) ?_ ?_
      rotate_left
      · intro w'
        go_simp
        with_reducible rfl
      rotate_left
      · simp only [Act.put, List.setIfInBounds_toArray, List.set_cons_zero, List.set_cons_succ, i64_w, i32_w]
        rfl
      refine pure_ (i := 4) (N := some 16) (v := ?_) (a' := ?_) #[true, false, true, false, true, false, false, false, false, false, false, false, false, false, false, false] rfl rfl (by kernel_rfl) (fun _ _ _ h => h) (Or.inl ⟨by rfl, ?_⟩) ?_ ?_
      rotate_left
      · intro w'
        go_simp
        with_reducible rfl
      rotate_left
      · simp only [Act.put, List.setIfInBounds_toArray, List.set_cons_zero, List.set_cons_succ, i64_w, i32_w]
        rfl
      refine pure_ (i := 10) (N := some 22) (v := ?_) (a' := ?_) #[true, false, true, false, true, false, false, false, false, false, true, false, false, false, false, false] rfl rfl (by kernel_rfl) (fun _ _ _ h => h) (Or.inl ⟨by rfl, ?_⟩) ?_ ?_
      rotate_left
      · intro w'
        go_simp
        with_reducible rfl
      rotate_left
      · simp only [Act.put, List.setIfInBounds_toArray, List.set_cons_zero, List.set_cons_succ, i64_w, i32_w]
        rfl
      refine take_ (i := 1) (N := some 13) (v := ?_) (a' := ?_) #[true, true, true, false, true, false, false, false, false, false, true, false, false, false, false, false] rfl rfl (by kernel_rfl) (fun _ _ _ h => h) (Or.inl ⟨by rfl, ?_⟩) hHeld ?_ ?_
      rotate_left
      · rintro w' hS'
        obtain ⟨s0, s1, s2⟩ := hS'
        go_simp
        with_reducible rfl
      rotate_left
      · simp only [Act.put, List.setIfInBounds_toArray, List.set_cons_zero, List.set_cons_succ, i64_w, i32_w]
        rfl
      refine take_ (i := 3) (N := some 15) (v := ?_) (a' := ?_) #[true, true, true, true, true, false, false, false, false, false, true, false, false, false, false, false] rfl rfl (by kernel_rfl) (fun _ _ _ h => h) (Or.inl ⟨by rfl, ?_⟩) hHeld ?_ ?_
      rotate_left
      · rintro w' hS'
        obtain ⟨s0, s1, s2⟩ := hS'
        go_simp
        with_reducible rfl
      rotate_left
      · simp only [Act.put, List.setIfInBounds_toArray, List.set_cons_zero, List.set_cons_succ, i64_w, i32_w]
        rfl
      refine take_ (i := 5) (N := some 17) (v := ?_) (a' := ?_) #[true, true, true, true, true, true, false, false, false, false, true, false, false, false, false, false] rfl rfl (by kernel_rfl) (fun _ _ _ h => h) (Or.inl ⟨by rfl, ?_⟩) hHeld ?_ ?_
      rotate_left
      · rintro w' hS'
        obtain ⟨s0, s1, s2⟩ := hS'
        go_simp
        with_reducible rfl
      rotate_left
      · simp only [Act.put, List.setIfInBounds_toArray, List.set_cons_zero, List.set_cons_succ, i64_w, i32_w]
        rfl
      refine take_ (i := 11) (N := some 23) (v := ?_) (a' := ?_) #[true, true, true, true, true, true, false, false, false, false, true, true, false, false, false, false] rfl rfl (by kernel_rfl) (fun _ _ _ h => h) (Or.inl ⟨by rfl, ?_⟩) hHeld ?_ ?_
      rotate_left
      · rintro w' hS'
        obtain ⟨s0, s1, s2⟩ := hS'
        go_simp
        with_reducible rfl
      rotate_left
      · simp only [Act.put, List.setIfInBounds_toArray, List.set_cons_zero, List.set_cons_succ, i64_w, i32_w]
        rfl
      refine pure_ (i := 12) (N := some 24) (v := ?_) (a' := ?_) #[true, true, true, true, true, true, false, false, false, false, true, true, true, false, false, false] rfl rfl (by kernel_rfl) (fun _ _ _ h => h) (Or.inl ⟨by rfl, ?_⟩) ?_ ?_
      rotate_left
      · intro w'
        go_simp
        with_reducible rfl
      rotate_left
      · simp only [Act.put, List.setIfInBounds_toArray, List.set_cons_zero, List.set_cons_succ, i64_w, i32_w]
        rfl
      refine two_ (i := 6) (j := 14) (Ni := some 18) (Nj := some 5) #[true, true, true, true, true, true, true, false, false, false, true, true, true, false, false, false] #[true, true, true, true, true, true, false, false, false, false, true, true, true, false, true, false] rfl rfl rfl rfl (by kernel_rfl) (by decide) (by decide) (fun K hK => ?_) (fun K hK => ?_)
      · refine slice_step (n := 2) (by rfl) (N := 18) rfl (cs := #[.int .i64 a28, .int .i64 a29]) (t := 3) ?hr ?_
        case hr => first | (go_simp; done) | (go_simp; rfl)
        intro g215 hg w216 hbox hb
        replace HS : Aside0 (Sep (fps []) w [b2 g32 a28 a29 a30 a31, b3 g35 0 0 0 0 0 0 0 0, b4 g215 a28 a29] w216) := ⟨HS.out.box hg hbox hb⟩
        clear hg hbox hb
        refine hK.out _ _ (⟨blk_cellv (HS.out.at0) 2 rfl, blk_cellv (HS.out.at0) 0 rfl, blk_cellv (HS.out.at0) 1 rfl⟩) (fun hHeld => ?_)
        clear hK K
        refine norm_ (a' := ?_) ?_ ?_
        rotate_left
        · show Act.put _ (some 18) _ = _
          simp only [Act.put, List.setIfInBounds_toArray, List.set_cons_zero, List.set_cons_succ, i64_w, i32_w]
          rfl
        refine two_ (i := 7) (j := 14) (Ni := some 19) (Nj := some 5) #[true, true, true, true, true, true, true, true, false, false, true, true, true, false, false, false] #[true, true, true, true, true, true, true, false, false, false, true, true, true, false, true, false] rfl rfl rfl rfl (by kernel_rfl) (by decide) (by decide) (fun K hK => ?_) (fun K hK => ?_)
        · refine goes_ Tryd.func123 (by kernel_rfl) rfl #[.slice (some ⟨g215, 0, none⟩) 2 2] (by rfl) rfl rfl (by (try simp only [List.map_toArray, List.map_cons, List.map_nil]); first | done | rfl) ?_
          refine (ratio_Mul.calls _ [a28, a29] (some ⟨g215, 0, none⟩) 2 t163 _ ⟨Rd.lit (l := []) (xs := [a28, a29]) HS.out 2 rfl (by simp)⟩ ⟨HGl0.out.pass (l := []) HS.out⟩ ⟨Sep.start _⟩ HA164).mono ?_
          rintro e_ w219 ⟨rfl, hS⟩
          replace HS : Aside0 (Sep (fps []) w [b2 g32 a28 a29 a30 a31, b3 g35 0 0 0 0 0 0 0 0, b4 g215 a28 a29] w219) := ⟨HS.out.call hS⟩
          clear hS
          refine ⟨_, rfl, ?_⟩
          refine hK.out _ _ (⟨blk_cellv (HS.out.at0) 2 rfl, blk_cellv (HS.out.at0) 0 rfl, blk_cellv (HS.out.at0) 1 rfl⟩) (fun hHeld => ?_)
          clear hK K
          refine norm_ (a' := ?_) ?_ ?_
          rotate_left
          · show Act.put _ (some 19) _ = _
            simp only [Act.put, List.setIfInBounds_toArray, List.set_cons_zero, List.set_cons_succ, i64_w, i32_w]
            rfl
          refine two_ (i := 8) (j := 14) (Ni := some 20) (Nj := some 5) #[true, true, true, true, true, true, true, true, true, false, true, true, true, false, false, false] #[true, true, true, true, true, true, true, true, false, false, true, true, true, false, true, false] rfl rfl rfl rfl (by kernel_rfl) (by decide) (by decide) (fun K hK => ?_) (fun K hK => ?_)
          · refine slice_step (n := 3) (by rfl) (N := 20) rfl (cs := #[.int .i64 24, .int .i64 a30, .int .i64 t163]) (t := 3) ?hr ?_
            case hr => first | (go_simp; done) | (go_simp; rfl)
            intro g220 hg w221 hbox hb
            replace HS : Aside0 (Sep (fps []) w [b2 g32 a28 a29 a30 a31, b3 g35 0 0 0 0 0 0 0 0, b4 g215 a28 a29, b5 g220 24 a30 t163] w221) := ⟨HS.out.box hg hbox hb⟩
            clear hg hbox hb
            refine hK.out _ _ (⟨blk_cellv (HS.out.at0) 2 rfl, blk_cellv (HS.out.at0) 0 rfl, blk_cellv (HS.out.at0) 1 rfl⟩) (fun hHeld => ?_)
            clear hK K
            refine norm_ (a' := ?_) ?_ ?_
            rotate_left
            · show Act.put _ (some 20) _ = _
              simp only [Act.put, List.setIfInBounds_toArray, List.set_cons_zero, List.set_cons_succ, i64_w, i32_w]
              rfl
            refine two_ (i := 9) (j := 14) (Ni := some 21) (Nj := some 5) #[true, true, true, true, true, true, true, true, true, true, true, true, true, false, false, false] #[true, true, true, true, true, true, true, true, true, false, true, true, true, false, true, false] rfl rfl rfl rfl (by kernel_rfl) (by decide) (by decide) (fun K hK => ?_) (fun K hK => ?_)
            · refine goes_ Tryd.func122 (by kernel_rfl) rfl #[.slice (some ⟨g220, 0, none⟩) 3 3] (by rfl) rfl rfl (by (try simp only [List.map_toArray, List.map_cons, List.map_nil]); first | done | rfl) ?_
              refine (ratio_Add.calls _ [24, a30, t163] (some ⟨g220, 0, none⟩) 3 t189 _ ⟨Rd.lit (l := []) (xs := [24, a30, t163]) HS.out 3 rfl (by simp)⟩ ⟨HGl0.out.pass (l := []) HS.out⟩ ⟨Sep.start _⟩ HA190).mono ?_
              rintro e_ w224 ⟨rfl, hS⟩
              replace HS : Aside0 (Sep (fps []) w [b2 g32 a28 a29 a30 a31, b3 g35 0 0 0 0 0 0 0 0, b4 g215 a28 a29, b5 g220 24 a30 t163] w224) := ⟨HS.out.call hS⟩
              clear hS
              refine ⟨_, rfl, ?_⟩
              refine hK.out _ _ (⟨blk_cellv (HS.out.at0) 2 rfl, blk_cellv (HS.out.at0) 0 rfl, blk_cellv (HS.out.at0) 1 rfl⟩) (fun hHeld => ?_)
              clear hK K
              refine norm_ (a' := ?_) ?_ ?_
              rotate_left
              · show Act.put _ (some 21) _ = _
                simp only [Act.put, List.setIfInBounds_toArray, List.set_cons_zero, List.set_cons_succ, i64_w, i32_w]
                rfl
              refine pure_ (i := 13) (N := some 25) (v := ?_) (a' := ?_) #[true, true, true, true, true, true, true, true, true, true, true, true, true, true, false, false] rfl rfl (by kernel_rfl) (fun _ _ _ h => h) (Or.inl ⟨by rfl, ?_⟩) ?_ ?_
              rotate_left
              · intro w'
                go_simp
                with_reducible rfl
              rotate_left
              · simp only [Act.put, List.setIfInBounds_toArray, List.set_cons_zero, List.set_cons_succ, i64_w, i32_w]
                rfl
              refine one_ (i := 14) (N := some 5) #[true, true, true, true, true, true, true, true, true, true, true, true, true, true, true, false] rfl rfl (by kernel_rfl) (by decide) (fun K hK => ?_)
              refine box_step (by rfl) (N := 5) rfl (cs := #[.int .i64 0, .int .i64 0, .int .i64 0, .int .i64 0, .int .i64 0, .int .i64 0, .int .i64 0, .int .i64 0]) (t := 97) ?hr ?_
              case hr => first | (go_simp; done) | (go_simp; rfl)
              intro g225 hg w226 hbox hb
              replace HS : Aside0 (Sep (fps []) w [b2 g32 a28 a29 a30 a31, b3 g35 0 0 0 0 0 0 0 0, b4 g215 a28 a29, b5 g220 24 a30 t163, b3 g225 0 0 0 0 0 0 0 0] w226) := ⟨HS.out.box hg hbox hb⟩
              clear hg hbox hb
              refine hK.out _ _ (⟨blk_cellv (HS.out.at0) 2 rfl, blk_cellv (HS.out.at0) 0 rfl, blk_cellv (HS.out.at0) 1 rfl⟩) (fun hHeld => ?_)
              clear hK K
              refine norm_ (a' := ?_) ?_ ?_
              rotate_left
              · show Act.put _ (some 5) _ = _
                simp only [Act.put, List.setIfInBounds_toArray, List.set_cons_zero, List.set_cons_succ, i64_w, i32_w]
                rfl
              refine one_ (i := 15) (N := none) #[true, true, true, true, true, true, true, true, true, true, true, true, true, true, true, true] rfl rfl (by kernel_rfl) (by decide) (fun K hK => ?_)
              have hc229 := blk_cellv (v := .int .i64 0) (HS.out.at4) 0 rfl
              have hz230 := blk_fz (HS.out.at4) 0
              have hc231 := blk_cellv (v := .int .i64 0) (HS.out.at4) 1 rfl
              have hz232 := blk_fz (HS.out.at4) 1
              have hc233 := blk_cellv (v := .int .i64 0) (HS.out.at4) 2 rfl
              have hz234 := blk_fz (HS.out.at4) 2
              have hc235 := blk_cellv (v := .int .i64 0) (HS.out.at4) 3 rfl
              have hz236 := blk_fz (HS.out.at4) 3
              have hc237 := blk_cellv (v := .int .i64 0) (HS.out.at4) 4 rfl
              have hz238 := blk_fz (HS.out.at4) 4
              have hc239 := blk_cellv (v := .int .i64 0) (HS.out.at4) 5 rfl
              have hz240 := blk_fz (HS.out.at4) 5
              have hc241 := blk_cellv (v := .int .i64 0) (HS.out.at4) 6 rfl
              have hz242 := blk_fz (HS.out.at4) 6
              have hc243 := blk_cellv (v := .int .i64 0) (HS.out.at4) 7 rfl
              have hz244 := blk_fz (HS.out.at4) 7
              refine store_step (w1 := (World.setCell (World.setCell (World.setCell (World.setCell (World.setCell (World.setCell (World.setCell (World.setCell w226 ⟨g225, 0, none⟩ (.int .i64 t189)) ⟨g225, 1, none⟩ (.int .i64 (wrap64 (a29 - 8)))) ⟨g225, 2, none⟩ (.int .i64 0)) ⟨g225, 3, none⟩ (.int .i64 0)) ⟨g225, 4, none⟩ (.int .i64 0)) ⟨g225, 5, none⟩ (.int .i64 0)) ⟨g225, 6, none⟩ (.int .i64 0)) ⟨g225, 7, none⟩ (.int .i64 0))) (by rfl) rfl ?hr ?_
              case hr => first | (go_simp; done) | (go_simp; rfl)
              clear hc229 hz230 hc231 hz232 hc233 hz234 hc235 hz236 hc237 hz238 hc239 hz240 hc241 hz242 hc243 hz244
              intro w228 hst
              replace HS : Aside0 (Sep (fps []) w [b2 g32 a28 a29 a30 a31, b3 g35 0 0 0 0 0 0 0 0, b4 g215 a28 a29, b5 g220 24 a30 t163, b3 g225 t189 (wrap64 (a29 - 8)) 0 0 0 0 0 0] w228) := ⟨by rw [hst]; exact HS.out.setAll (l1 := [b2 g32 a28 a29 a30 a31, b3 g35 0 0 0 0 0 0 0 0, b4 g215 a28 a29, b5 g220 24 a30 t163]) (l2 := []) [.int .i64 t189, .int .i64 (wrap64 (a29 - 8)), .int .i64 0, .int .i64 0, .int .i64 0, .int .i64 0, .int .i64 0, .int .i64 0] rfl⟩
              clear hst
              refine hK.out _ _ (⟨blk_cellv (HS.out.at0) 2 rfl, blk_cellv (HS.out.at0) 0 rfl, blk_cellv (HS.out.at0) 1 rfl⟩) (fun hHeld => ?_)
              clear hK K
              refine done_ (by kernel_rfl) ?_
              go_wp2_with fail
              go_meet
              case rel => exact ⟨g215, g220, g225, (by first | rfl | (simp [IntKind.wrap_u32]; done)), ⟨(((((HS.out).front 4 (by simp)).front 4 (by simp)).front 4 (by simp)).front 4 (by simp)).front 4 (by simp)⟩⟩
            · refine box_step (by rfl) (N := 5) rfl (cs := #[.int .i64 0, .int .i64 0, .int .i64 0, .int .i64 0, .int .i64 0, .int .i64 0, .int .i64 0, .int .i64 0]) (t := 97) ?hr ?_
              case hr => first | (go_simp; done) | (go_simp; rfl)
              intro g245 hg w246 hbox hb
              replace HS : Aside0 (Sep (fps []) w [b2 g32 a28 a29 a30 a31, b3 g35 0 0 0 0 0 0 0 0, b4 g215 a28 a29, b5 g220 24 a30 t163, b3 g245 0 0 0 0 0 0 0 0] w246) := ⟨HS.out.box hg hbox hb⟩
              clear hg hbox hb
              refine hK.out _ _ (⟨blk_cellv (HS.out.at0) 2 rfl, blk_cellv (HS.out.at0) 0 rfl, blk_cellv (HS.out.at0) 1 rfl⟩) (fun hHeld => ?_)
              clear hK K
              refine norm_ (a' := ?_) ?_ ?_
              rotate_left
              · show Act.put _ (some 5) _ = _
                simp only [Act.put, List.setIfInBounds_toArray, List.set_cons_zero, List.set_cons_succ, i64_w, i32_w]
                rfl
              refine one_ (i := 9) (N := some 21) #[true, true, true, true, true, true, true, true, true, true, true, true, true, false, true, false] rfl rfl (by kernel_rfl) (by decide) (fun K hK => ?_)
              refine goes_ Tryd.func122 (by kernel_rfl) rfl #[.slice (some ⟨g220, 0, none⟩) 3 3] (by rfl) rfl rfl (by (try simp only [List.map_toArray, List.map_cons, List.map_nil]); first | done | rfl) ?_
              refine (ratio_Add.calls _ [24, a30, t163] (some ⟨g220, 0, none⟩) 3 t189 _ ⟨Rd.lit (l := []) (xs := [24, a30, t163]) HS.out 3 rfl (by simp)⟩ ⟨HGl0.out.pass (l := []) HS.out⟩ ⟨Sep.start _⟩ HA190).mono ?_
              rintro e_ w249 ⟨rfl, hS⟩
              replace HS : Aside0 (Sep (fps []) w [b2 g32 a28 a29 a30 a31, b3 g35 0 0 0 0 0 0 0 0, b4 g215 a28 a29, b5 g220 24 a30 t163, b3 g245 0 0 0 0 0 0 0 0] w249) := ⟨HS.out.call hS⟩
              clear hS
              refine ⟨_, rfl, ?_⟩
              refine hK.out _ _ (⟨blk_cellv (HS.out.at0) 2 rfl, blk_cellv (HS.out.at0) 0 rfl, blk_cellv (HS.out.at0) 1 rfl⟩) (fun hHeld => ?_)
              clear hK K
              refine norm_ (a' := ?_) ?_ ?_
              rotate_left
              · show Act.put _ (some 21) _ = _
                simp only [Act.put, List.setIfInBounds_toArray, List.set_cons_zero, List.set_cons_succ, i64_w, i32_w]
                rfl
              refine pure_ (i := 13) (N := some 25) (v := ?_) (a' := ?_) #[true, true, true, true, true, true, true, true, true, true, true, true, true, true, true, false] rfl rfl (by kernel_rfl) (fun _ _ _ h => h) (Or.inl ⟨by rfl, ?_⟩) ?_ ?_
              rotate_left
              · intro w'
                go_simp
                with_reducible rfl
              rotate_left
              · simp only [Act.put, List.setIfInBounds_toArray, List.set_cons_zero, List.set_cons_succ, i64_w, i32_w]
                rfl
              refine one_ (i := 15) (N := none) #[true, true, true, true, true, true, true, true, true, true, true, true, true, true, true, true] rfl rfl (by kernel_rfl) (by decide) (fun K hK => ?_)
              have hc251 := blk_cellv (v := .int .i64 0) (HS.out.at4) 0 rfl
              have hz252 := blk_fz (HS.out.at4) 0
              have hc253 := blk_cellv (v := .int .i64 0) (HS.out.at4) 1 rfl
              have hz254 := blk_fz (HS.out.at4) 1
              have hc255 := blk_cellv (v := .int .i64 0) (HS.out.at4) 2 rfl
              have hz256 := blk_fz (HS.out.at4) 2
              have hc257 := blk_cellv (v := .int .i64 0) (HS.out.at4) 3 rfl
              have hz258 := blk_fz (HS.out.at4) 3
              have hc259 := blk_cellv (v := .int .i64 0) (HS.out.at4) 4 rfl
              have hz260 := blk_fz (HS.out.at4) 4
              have hc261 := blk_cellv (v := .int .i64 0) (HS.out.at4) 5 rfl
              have hz262 := blk_fz (HS.out.at4) 5
              have hc263 := blk_cellv (v := .int .i64 0) (HS.out.at4) 6 rfl
              have hz264 := blk_fz (HS.out.at4) 6
              have hc265 := blk_cellv (v := .int .i64 0) (HS.out.at4) 7 rfl
              have hz266 := blk_fz (HS.out.at4) 7
              refine store_step (w1 := (World.setCell (World.setCell (World.setCell (World.setCell (World.setCell (World.setCell (World.setCell (World.setCell w249 ⟨g245, 0, none⟩ (.int .i64 t189)) ⟨g245, 1, none⟩ (.int .i64 (wrap64 (a29 - 8)))) ⟨g245, 2, none⟩ (.int .i64 0)) ⟨g245, 3, none⟩ (.int .i64 0)) ⟨g245, 4, none⟩ (.int .i64 0)) ⟨g245, 5, none⟩ (.int .i64 0)) ⟨g245, 6, none⟩ (.int .i64 0)) ⟨g245, 7, none⟩ (.int .i64 0))) (by rfl) rfl ?hr ?_
              case hr => first | (go_simp; done) | (go_simp; rfl)
              clear hc251 hz252 hc253 hz254 hc255 hz256 hc257 hz258 hc259 hz260 hc261 hz262 hc263 hz264 hc265 hz266
              intro w250 hst
              replace HS : Aside0 (Sep (fps []) w [b2 g32 a28 a29 a30 a31, b3 g35 0 0 0 0 0 0 0 0, b4 g215 a28 a29, b5 g220 24 a30 t163, b3 g245 t189 (wrap64 (a29 - 8)) 0 0 0 0 0 0] w250) := ⟨by rw [hst]; exact HS.out.setAll (l1 := [b2 g32 a28 a29 a30 a31, b3 g35 0 0 0 0 0 0 0 0, b4 g215 a28 a29, b5 g220 24 a30 t163]) (l2 := []) [.int .i64 t189, .int .i64 (wrap64 (a29 - 8)), .int .i64 0, .int .i64 0, .int .i64 0, .int .i64 0, .int .i64 0, .int .i64 0] rfl⟩
              clear hst
              refine hK.out _ _ (⟨blk_cellv (HS.out.at0) 2 rfl, blk_cellv (HS.out.at0) 0 rfl, blk_cellv (HS.out.at0) 1 rfl⟩) (fun hHeld => ?_)
              clear hK K
              refine done_ (by kernel_rfl) ?_
              go_wp2_with fail
              go_meet
              case rel => exact ⟨g215, g220, g245, (by first | rfl | (simp [IntKind.wrap_u32]; done)), ⟨(((((HS.out).front 4 (by simp)).front 4 (by simp)).front 4 (by simp)).front 4 (by simp)).front 4 (by simp)⟩⟩
          · refine box_step (by rfl) (N := 5) rfl (cs := #[.int .i64 0, .int .i64 0, .int .i64 0, .int .i64 0, .int .i64 0, .int .i64 0, .int .i64 0, .int .i64 0]) (t := 97) ?hr ?_
            case hr => first | (go_simp; done) | (go_simp; rfl)
            intro g267 hg w268 hbox hb
            replace HS : Aside0 (Sep (fps []) w [b2 g32 a28 a29 a30 a31, b3 g35 0 0 0 0 0 0 0 0, b4 g215 a28 a29, b3 g267 0 0 0 0 0 0 0 0] w268) := ⟨HS.out.box hg hbox hb⟩
            clear hg hbox hb
            refine hK.out _ _ (⟨blk_cellv (HS.out.at0) 2 rfl, blk_cellv (HS.out.at0) 0 rfl, blk_cellv (HS.out.at0) 1 rfl⟩) (fun hHeld => ?_)
            clear hK K
            refine norm_ (a' := ?_) ?_ ?_
            rotate_left
            · show Act.put _ (some 5) _ = _
              simp only [Act.put, List.setIfInBounds_toArray, List.set_cons_zero, List.set_cons_succ, i64_w, i32_w]
              rfl
            refine one_ (i := 8) (N := some 20) #[true, true, true, true, true, true, true, true, true, false, true, true, true, false, true, false] rfl rfl (by kernel_rfl) (by decide) (fun K hK => ?_)
            refine slice_step (n := 3) (by rfl) (N := 20) rfl (cs := #[.int .i64 24, .int .i64 a30, .int .i64 t163]) (t := 3) ?hr ?_
            case hr => first | (go_simp; done) | (go_simp; rfl)
            intro g270 hg w271 hbox hb
            replace HS : Aside0 (Sep (fps []) w [b2 g32 a28 a29 a30 a31, b3 g35 0 0 0 0 0 0 0 0, b4 g215 a28 a29, b3 g267 0 0 0 0 0 0 0 0, b5 g270 24 a30 t163] w271) := ⟨HS.out.box hg hbox hb⟩
            clear hg hbox hb
            refine hK.out _ _ (⟨blk_cellv (HS.out.at0) 2 rfl, blk_cellv (HS.out.at0) 0 rfl, blk_cellv (HS.out.at0) 1 rfl⟩) (fun hHeld => ?_)
            clear hK K
            refine norm_ (a' := ?_) ?_ ?_
            rotate_left
            · show Act.put _ (some 20) _ = _
              simp only [Act.put, List.setIfInBounds_toArray, List.set_cons_zero, List.set_cons_succ, i64_w, i32_w]
              rfl
            refine one_ (i := 9) (N := some 21) #[true, true, true, true, true, true, true, true, true, true, true, true, true, false, true, false] rfl rfl (by kernel_rfl) (by decide) (fun K hK => ?_)
            refine goes_ Tryd.func122 (by kernel_rfl) rfl #[.slice (some ⟨g270, 0, none⟩) 3 3] (by rfl) rfl rfl (by (try simp only [List.map_toArray, List.map_cons, List.map_nil]); first | done | rfl) ?_
            refine (ratio_Add.calls _ [24, a30, t163] (some ⟨g270, 0, none⟩) 3 t189 _ ⟨Rd.lit (l := []) (xs := [24, a30, t163]) HS.out 4 rfl (by simp)⟩ ⟨HGl0.out.pass (l := []) HS.out⟩ ⟨Sep.start _⟩ HA190).mono ?_
            rintro e_ w274 ⟨rfl, hS⟩
            replace HS : Aside0 (Sep (fps []) w [b2 g32 a28 a29 a30 a31, b3 g35 0 0 0 0 0 0 0 0, b4 g215 a28 a29, b3 g267 0 0 0 0 0 0 0 0, b5 g270 24 a30 t163] w274) := ⟨HS.out.call hS⟩
            clear hS
            refine ⟨_, rfl, ?_⟩
            refine hK.out _ _ (⟨blk_cellv (HS.out.at0) 2 rfl, blk_cellv (HS.out.at0) 0 rfl, blk_cellv (HS.out.at0) 1 rfl⟩) (fun hHeld => ?_)
            clear hK K
            refine norm_ (a' := ?_) ?_ ?_
            rotate_left
            · show Act.put _ (some 21) _ = _
              simp only [Act.put, List.setIfInBounds_toArray, List.set_cons_zero, List.set_cons_succ, i64_w, i32_w]
              rfl
            refine pure_ (i := 13) (N := some 25) (v := ?_) (a' := ?_) #[true, true, true, true, true, true, true, true, true, true, true, true, true, true, true, false] rfl rfl (by kernel_rfl) (fun _ _ _ h => h) (Or.inl ⟨by rfl, ?_⟩) ?_ ?_
            rotate_left
            · intro w'
              go_simp
              with_reducible rfl
            rotate_left
            · simp only [Act.put, List.setIfInBounds_toArray, List.set_cons_zero, List.set_cons_succ, i64_w, i32_w]
              rfl
            refine one_ (i := 15) (N := none) #[true, true, true, true, true, true, true, true, true, true, true, true, true, true, true, true] rfl rfl (by kernel_rfl) (by decide) (fun K hK => ?_)
            have hc276 := blk_cellv (v := .int .i64 0) (HS.out.at3) 0 rfl
            have hz277 := blk_fz (HS.out.at3) 0
            have hc278 := blk_cellv (v := .int .i64 0) (HS.out.at3) 1 rfl
            have hz279 := blk_fz (HS.out.at3) 1
            have hc280 := blk_cellv (v := .int .i64 0) (HS.out.at3) 2 rfl
            have hz281 := blk_fz (HS.out.at3) 2
            have hc282 := blk_cellv (v := .int .i64 0) (HS.out.at3) 3 rfl
            have hz283 := blk_fz (HS.out.at3) 3
            have hc284 := blk_cellv (v := .int .i64 0) (HS.out.at3) 4 rfl
            have hz285 := blk_fz (HS.out.at3) 4
            have hc286 := blk_cellv (v := .int .i64 0) (HS.out.at3) 5 rfl
            have hz287 := blk_fz (HS.out.at3) 5
            have hc288 := blk_cellv (v := .int .i64 0) (HS.out.at3) 6 rfl
            have hz289 := blk_fz (HS.out.at3) 6
            have hc290 := blk_cellv (v := .int .i64 0) (HS.out.at3) 7 rfl
            have hz291 := blk_fz (HS.out.at3) 7
            refine store_step (w1 := (World.setCell (World.setCell (World.setCell (World.setCell (World.setCell (World.setCell (World.setCell (World.setCell w274 ⟨g267, 0, none⟩ (.int .i64 t189)) ⟨g267, 1, none⟩ (.int .i64 (wrap64 (a29 - 8)))) ⟨g267, 2, none⟩ (.int .i64 0)) ⟨g267, 3, none⟩ (.int .i64 0)) ⟨g267, 4, none⟩ (.int .i64 0)) ⟨g267, 5, none⟩ (.int .i64 0)) ⟨g267, 6, none⟩ (.int .i64 0)) ⟨g267, 7, none⟩ (.int .i64 0))) (by rfl) rfl ?hr ?_
            case hr => first | (go_simp; done) | (go_simp; rfl)
            clear hc276 hz277 hc278 hz279 hc280 hz281 hc282 hz283 hc284 hz285 hc286 hz287 hc288 hz289 hc290 hz291
            intro w275 hst
            replace HS : Aside0 (Sep (fps []) w [b2 g32 a28 a29 a30 a31, b3 g35 0 0 0 0 0 0 0 0, b4 g215 a28 a29, b3 g267 t189 (wrap64 (a29 - 8)) 0 0 0 0 0 0, b5 g270 24 a30 t163] w275) := ⟨by rw [hst]; exact HS.out.setAll (l1 := [b2 g32 a28 a29 a30 a31, b3 g35 0 0 0 0 0 0 0 0, b4 g215 a28 a29]) (l2 := [b5 g270 24 a30 t163]) [.int .i64 t189, .int .i64 (wrap64 (a29 - 8)), .int .i64 0, .int .i64 0, .int .i64 0, .int .i64 0, .int .i64 0, .int .i64 0] rfl⟩
            clear hst
            refine hK.out _ _ (⟨blk_cellv (HS.out.at0) 2 rfl, blk_cellv (HS.out.at0) 0 rfl, blk_cellv (HS.out.at0) 1 rfl⟩) (fun hHeld => ?_)
            clear hK K
            refine done_ (by kernel_rfl) ?_
            go_wp2_with fail
            go_meet
            case rel => exact ⟨g215, g270, g267, (by first | rfl | (simp [IntKind.wrap_u32]; done)), ⟨(((((HS.out).front 3 (by simp)).front 4 (by simp)).front 4 (by simp)).front 4 (by simp)).front 4 (by simp)⟩⟩
        · refine box_step (by rfl) (N := 5) rfl (cs := #[.int .i64 0, .int .i64 0, .int .i64 0, .int .i64 0, .int .i64 0, .int .i64 0, .int .i64 0, .int .i64 0]) (t := 97) ?hr ?_
          case hr => first | (go_simp; done) | (go_simp; rfl)
          intro g292 hg w293 hbox hb
          replace HS : Aside0 (Sep (fps []) w [b2 g32 a28 a29 a30 a31, b3 g35 0 0 0 0 0 0 0 0, b4 g215 a28 a29, b3 g292 0 0 0 0 0 0 0 0] w293) := ⟨HS.out.box hg hbox hb⟩
          clear hg hbox hb
          refine hK.out _ _ (⟨blk_cellv (HS.out.at0) 2 rfl, blk_cellv (HS.out.at0) 0 rfl, blk_cellv (HS.out.at0) 1 rfl⟩) (fun hHeld => ?_)
          clear hK K
          refine norm_ (a' := ?_) ?_ ?_
          rotate_left
          · show Act.put _ (some 5) _ = _
            simp only [Act.put, List.setIfInBounds_toArray, List.set_cons_zero, List.set_cons_succ, i64_w, i32_w]
            rfl
          refine one_ (i := 7) (N := some 19) #[true, true, true, true, true, true, true, true, false, false, true, true, true, false, true, false] rfl rfl (by kernel_rfl) (by decide) (fun K hK => ?_)
          refine goes_ Tryd.func123 (by kernel_rfl) rfl #[.slice (some ⟨g215, 0, none⟩) 2 2] (by rfl) rfl rfl (by (try simp only [List.map_toArray, List.map_cons, List.map_nil]); first | done | rfl) ?_
          refine (ratio_Mul.calls _ [a28, a29] (some ⟨g215, 0, none⟩) 2 t163 _ ⟨Rd.lit (l := []) (xs := [a28, a29]) HS.out 2 rfl (by simp)⟩ ⟨HGl0.out.pass (l := []) HS.out⟩ ⟨Sep.start _⟩ HA164).mono ?_
          rintro e_ w296 ⟨rfl, hS⟩
          replace HS : Aside0 (Sep (fps []) w [b2 g32 a28 a29 a30 a31, b3 g35 0 0 0 0 0 0 0 0, b4 g215 a28 a29, b3 g292 0 0 0 0 0 0 0 0] w296) := ⟨HS.out.call hS⟩
          clear hS
          refine ⟨_, rfl, ?_⟩
          refine hK.out _ _ (⟨blk_cellv (HS.out.at0) 2 rfl, blk_cellv (HS.out.at0) 0 rfl, blk_cellv (HS.out.at0) 1 rfl⟩) (fun hHeld => ?_)
          clear hK K
          refine norm_ (a' := ?_) ?_ ?_
          rotate_left
          · show Act.put _ (some 19) _ = _
            simp only [Act.put, List.setIfInBounds_toArray, List.set_cons_zero, List.set_cons_succ, i64_w, i32_w]
            rfl
          refine one_ (i := 8) (N := some 20) #[true, true, true, true, true, true, true, true, true, false, true, true, true, false, true, false] rfl rfl (by kernel_rfl) (by decide) (fun K hK => ?_)
          refine slice_step (n := 3) (by rfl) (N := 20) rfl (cs := #[.int .i64 24, .int .i64 a30, .int .i64 t163]) (t := 3) ?hr ?_
          case hr => first | (go_simp; done) | (go_simp; rfl)
          intro g297 hg w298 hbox hb
          replace HS : Aside0 (Sep (fps []) w [b2 g32 a28 a29 a30 a31, b3 g35 0 0 0 0 0 0 0 0, b4 g215 a28 a29, b3 g292 0 0 0 0 0 0 0 0, b5 g297 24 a30 t163] w298) := ⟨HS.out.box hg hbox hb⟩
          clear hg hbox hb
          refine hK.out _ _ (⟨blk_cellv (HS.out.at0) 2 rfl, blk_cellv (HS.out.at0) 0 rfl, blk_cellv (HS.out.at0) 1 rfl⟩) (fun hHeld => ?_)
          clear hK K
          refine norm_ (a' := ?_) ?_ ?_
          rotate_left
          · show Act.put _ (some 20) _ = _
            simp only [Act.put, List.setIfInBounds_toArray, List.set_cons_zero, List.set_cons_succ, i64_w, i32_w]
            rfl
          refine one_ (i := 9) (N := some 21) #[true, true, true, true, true, true, true, true, true, true, true, true, true, false, true, false] rfl rfl (by kernel_rfl) (by decide) (fun K hK => ?_)
          refine goes_ Tryd.func122 (by kernel_rfl) rfl #[.slice (some ⟨g297, 0, none⟩) 3 3] (by rfl) rfl rfl (by (try simp only [List.map_toArray, List.map_cons, List.map_nil]); first | done | rfl) ?_
          refine (ratio_Add.calls _ [24, a30, t163] (some ⟨g297, 0, none⟩) 3 t189 _ ⟨Rd.lit (l := []) (xs := [24, a30, t163]) HS.out 4 rfl (by simp)⟩ ⟨HGl0.out.pass (l := []) HS.out⟩ ⟨Sep.start _⟩ HA190).mono ?_
          rintro e_ w301 ⟨rfl, hS⟩
          replace HS : Aside0 (Sep (fps []) w [b2 g32 a28 a29 a30 a31, b3 g35 0 0 0 0 0 0 0 0, b4 g215 a28 a29, b3 g292 0 0 0 0 0 0 0 0, b5 g297 24 a30 t163] w301) := ⟨HS.out.call hS⟩
          clear hS
          refine ⟨_, rfl, ?_⟩
          refine hK.out _ _ (⟨blk_cellv (HS.out.at0) 2 rfl, blk_cellv (HS.out.at0) 0 rfl, blk_cellv (HS.out.at0) 1 rfl⟩) (fun hHeld => ?_)
          clear hK K
          refine norm_ (a' := ?_) ?_ ?_
          rotate_left
          · show Act.put _ (some 21) _ = _
            simp only [Act.put, List.setIfInBounds_toArray, List.set_cons_zero, List.set_cons_succ, i64_w, i32_w]
            rfl
          refine pure_ (i := 13) (N := some 25) (v := ?_) (a' := ?_) #[true, true, true, true, true, true, true, true, true, true, true, true, true, true, true, false] rfl rfl (by kernel_rfl) (fun _ _ _ h => h) (Or.inl ⟨by rfl, ?_⟩) ?_ ?_
          rotate_left
          · intro w'
            go_simp
            with_reducible rfl
          rotate_left
          · simp only [Act.put, List.setIfInBounds_toArray, List.set_cons_zero, List.set_cons_succ, i64_w, i32_w]
            rfl
          refine one_ (i := 15) (N := none) #[true, true, true, true, true, true, true, true, true, true, true, true, true, true, true, true] rfl rfl (by kernel_rfl) (by decide) (fun K hK => ?_)
          have hc303 := blk_cellv (v := .int .i64 0) (HS.out.at3) 0 rfl
          have hz304 := blk_fz (HS.out.at3) 0
          have hc305 := blk_cellv (v := .int .i64 0) (HS.out.at3) 1 rfl
          have hz306 := blk_fz (HS.out.at3) 1
          have hc307 := blk_cellv (v := .int .i64 0) (HS.out.at3) 2 rfl
          have hz308 := blk_fz (HS.out.at3) 2
          have hc309 := blk_cellv (v := .int .i64 0) (HS.out.at3) 3 rfl
          have hz310 := blk_fz (HS.out.at3) 3
          have hc311 := blk_cellv (v := .int .i64 0) (HS.out.at3) 4 rfl
          have hz312 := blk_fz (HS.out.at3) 4
          have hc313 := blk_cellv (v := .int .i64 0) (HS.out.at3) 5 rfl
          have hz314 := blk_fz (HS.out.at3) 5
          have hc315 := blk_cellv (v := .int .i64 0) (HS.out.at3) 6 rfl
          have hz316 := blk_fz (HS.out.at3) 6
          have hc317 := blk_cellv (v := .int .i64 0) (HS.out.at3) 7 rfl
          have hz318 := blk_fz (HS.out.at3) 7
          refine store_step (w1 := (World.setCell (World.setCell (World.setCell (World.setCell (World.setCell (World.setCell (World.setCell (World.setCell w301 ⟨g292, 0, none⟩ (.int .i64 t189)) ⟨g292, 1, none⟩ (.int .i64 (wrap64 (a29 - 8)))) ⟨g292, 2, none⟩ (.int .i64 0)) ⟨g292, 3, none⟩ (.int .i64 0)) ⟨g292, 4, none⟩ (.int .i64 0)) ⟨g292, 5, none⟩ (.int .i64 0)) ⟨g292, 6, none⟩ (.int .i64 0)) ⟨g292, 7, none⟩ (.int .i64 0))) (by rfl) rfl ?hr ?_
          case hr => first | (go_simp; done) | (go_simp; rfl)
          clear hc303 hz304 hc305 hz306 hc307 hz308 hc309 hz310 hc311 hz312 hc313 hz314 hc315 hz316 hc317 hz318
          intro w302 hst
          replace HS : Aside0 (Sep (fps []) w [b2 g32 a28 a29 a30 a31, b3 g35 0 0 0 0 0 0 0 0, b4 g215 a28 a29, b3 g292 t189 (wrap64 (a29 - 8)) 0 0 0 0 0 0, b5 g297 24 a30 t163] w302) := ⟨by rw [hst]; exact HS.out.setAll (l1 := [b2 g32 a28 a29 a30 a31, b3 g35 0 0 0 0 0 0 0 0, b4 g215 a28 a29]) (l2 := [b5 g297 24 a30 t163]) [.int .i64 t189, .int .i64 (wrap64 (a29 - 8)), .int .i64 0, .int .i64 0, .int .i64 0, .int .i64 0, .int .i64 0, .int .i64 0] rfl⟩
          clear hst
          refine hK.out _ _ (⟨blk_cellv (HS.out.at0) 2 rfl, blk_cellv (HS.out.at0) 0 rfl, blk_cellv (HS.out.at0) 1 rfl⟩) (fun hHeld => ?_)
          clear hK K
          refine done_ (by kernel_rfl) ?_
          go_wp2_with fail
          go_meet
          case rel => exact ⟨g215, g297, g292, (by first | rfl | (simp [IntKind.wrap_u32]; done)), ⟨(((((HS.out).front 3 (by simp)).front 4 (by simp)).front 4 (by simp)).front 4 (by simp)).front 4 (by simp)⟩⟩
      · refine box_step (by rfl) (N := 5) rfl (cs := #[.int .i64 0, .int .i64 0, .int .i64 0, .int .i64 0, .int .i64 0, .int .i64 0, .int .i64 0, .int .i64 0]) (t := 97) ?hr ?_
        case hr => first | (go_simp; done) | (go_simp; rfl)
        intro g319 hg w320 hbox hb
        replace HS : Aside0 (Sep (fps []) w [b2 g32 a28 a29 a30 a31, b3 g35 0 0 0 0 0 0 0 0, b3 g319 0 0 0 0 0 0 0 0] w320) := ⟨HS.out.box hg hbox hb⟩
        clear hg hbox hb
        refine hK.out _ _ (⟨blk_cellv (HS.out.at0) 2 rfl, blk_cellv (HS.out.at0) 0 rfl, blk_cellv (HS.out.at0) 1 rfl⟩) (fun hHeld => ?_)
        clear hK K
        refine norm_ (a' := ?_) ?_ ?_
        rotate_left
        · show Act.put _ (some 5) _ = _
          simp only [Act.put, List.setIfInBounds_toArray, List.set_cons_zero, List.set_cons_succ, i64_w, i32_w]
          rfl
        refine one_ (i := 6) (N := some 18) #[true, true, true, true, true, true, true, false, false, false, true, true, true, false, true, false] rfl rfl (by kernel_rfl) (by decide) (fun K hK => ?_)
        refine slice_step (n := 2) (by rfl) (N := 18) rfl (cs := #[.int .i64 a28, .int .i64 a29]) (t := 3) ?hr ?_
        case hr => first | (go_simp; done) | (go_simp; rfl)
        intro g322 hg w323 hbox hb
        replace HS : Aside0 (Sep (fps []) w [b2 g32 a28 a29 a30 a31, b3 g35 0 0 0 0 0 0 0 0, b3 g319 0 0 0 0 0 0 0 0, b4 g322 a28 a29] w323) := ⟨HS.out.box hg hbox hb⟩
        clear hg hbox hb
        refine hK.out _ _ (⟨blk_cellv (HS.out.at0) 2 rfl, blk_cellv (HS.out.at0) 0 rfl, blk_cellv (HS.out.at0) 1 rfl⟩) (fun hHeld => ?_)
        clear hK K
        refine norm_ (a' := ?_) ?_ ?_
        rotate_left
        · show Act.put _ (some 18) _ = _
          simp only [Act.put, List.setIfInBounds_toArray, List.set_cons_zero, List.set_cons_succ, i64_w, i32_w]
          rfl
        refine one_ (i := 7) (N := some 19) #[true, true, true, true, true, true, true, true, false, false, true, true, true, false, true, false] rfl rfl (by kernel_rfl) (by decide) (fun K hK => ?_)
        refine goes_ Tryd.func123 (by kernel_rfl) rfl #[.slice (some ⟨g322, 0, none⟩) 2 2] (by rfl) rfl rfl (by (try simp only [List.map_toArray, List.map_cons, List.map_nil]); first | done | rfl) ?_
        refine (ratio_Mul.calls _ [a28, a29] (some ⟨g322, 0, none⟩) 2 t163 _ ⟨Rd.lit (l := []) (xs := [a28, a29]) HS.out 3 rfl (by simp)⟩ ⟨HGl0.out.pass (l := []) HS.out⟩ ⟨Sep.start _⟩ HA164).mono ?_
        rintro e_ w326 ⟨rfl, hS⟩
        replace HS : Aside0 (Sep (fps []) w [b2 g32 a28 a29 a30 a31, b3 g35 0 0 0 0 0 0 0 0, b3 g319 0 0 0 0 0 0 0 0, b4 g322 a28 a29] w326) := ⟨HS.out.call hS⟩
        clear hS
        refine ⟨_, rfl, ?_⟩
        refine hK.out _ _ (⟨blk_cellv (HS.out.at0) 2 rfl, blk_cellv (HS.out.at0) 0 rfl, blk_cellv (HS.out.at0) 1 rfl⟩) (fun hHeld => ?_)
        clear hK K
        refine norm_ (a' := ?_) ?_ ?_
        rotate_left
        · show Act.put _ (some 19) _ = _
          simp only [Act.put, List.setIfInBounds_toArray, List.set_cons_zero, List.set_cons_succ, i64_w, i32_w]
          rfl
        refine one_ (i := 8) (N := some 20) #[true, true, true, true, true, true, true, true, true, false, true, true, true, false, true, false] rfl rfl (by kernel_rfl) (by decide) (fun K hK => ?_)
        refine slice_step (n := 3) (by rfl) (N := 20) rfl (cs := #[.int .i64 24, .int .i64 a30, .int .i64 t163]) (t := 3) ?hr ?_
        case hr => first | (go_simp; done) | (go_simp; rfl)
        intro g327 hg w328 hbox hb
        replace HS : Aside0 (Sep (fps []) w [b2 g32 a28 a29 a30 a31, b3 g35 0 0 0 0 0 0 0 0, b3 g319 0 0 0 0 0 0 0 0, b4 g322 a28 a29, b5 g327 24 a30 t163] w328) := ⟨HS.out.box hg hbox hb⟩
        clear hg hbox hb
        refine hK.out _ _ (⟨blk_cellv (HS.out.at0) 2 rfl, blk_cellv (HS.out.at0) 0 rfl, blk_cellv (HS.out.at0) 1 rfl⟩) (fun hHeld => ?_)
        clear hK K
        refine norm_ (a' := ?_) ?_ ?_
        rotate_left
        · show Act.put _ (some 20) _ = _
          simp only [Act.put, List.setIfInBounds_toArray, List.set_cons_zero, List.set_cons_succ, i64_w, i32_w]
          rfl
        refine one_ (i := 9) (N := some 21) #[true, true, true, true, true, true, true, true, true, true, true, true, true, false, true, false] rfl rfl (by kernel_rfl) (by decide) (fun K hK => ?_)
        refine goes_ Tryd.func122 (by kernel_rfl) rfl #[.slice (some ⟨g327, 0, none⟩) 3 3] (by rfl) rfl rfl (by (try simp only [List.map_toArray, List.map_cons, List.map_nil]); first | done | rfl) ?_
        refine (ratio_Add.calls _ [24, a30, t163] (some ⟨g327, 0, none⟩) 3 t189 _ ⟨Rd.lit (l := []) (xs := [24, a30, t163]) HS.out 4 rfl (by simp)⟩ ⟨HGl0.out.pass (l := []) HS.out⟩ ⟨Sep.start _⟩ HA190).mono ?_
        rintro e_ w331 ⟨rfl, hS⟩
        replace HS : Aside0 (Sep (fps []) w [b2 g32 a28 a29 a30 a31, b3 g35 0 0 0 0 0 0 0 0, b3 g319 0 0 0 0 0 0 0 0, b4 g322 a28 a29, b5 g327 24 a30 t163] w331) := ⟨HS.out.call hS⟩
        clear hS
        refine ⟨_, rfl, ?_⟩
        refine hK.out _ _ (⟨blk_cellv (HS.out.at0) 2 rfl, blk_cellv (HS.out.at0) 0 rfl, blk_cellv (HS.out.at0) 1 rfl⟩) (fun hHeld => ?_)
        clear hK K
        refine norm_ (a' := ?_) ?_ ?_
        rotate_left
        · show Act.put _ (some 21) _ = _
          simp only [Act.put, List.setIfInBounds_toArray, List.set_cons_zero, List.set_cons_succ, i64_w, i32_w]
          rfl
        refine pure_ (i := 13) (N := some 25) (v := ?_) (a' := ?_) #[true, true, true, true, true, true, true, true, true, true, true, true, true, true, true, false] rfl rfl (by kernel_rfl) (fun _ _ _ h => h) (Or.inl ⟨by rfl, ?_⟩) ?_ ?_
        rotate_left
        · intro w'
          go_simp
          with_reducible rfl
        rotate_left
        · simp only [Act.put, List.setIfInBounds_toArray, List.set_cons_zero, List.set_cons_succ, i64_w, i32_w]
          rfl
        refine one_ (i := 15) (N := none) #[true, true, true, true, true, true, true, true, true, true, true, true, true, true, true, true] rfl rfl (by kernel_rfl) (by decide) (fun K hK => ?_)
        have hc333 := blk_cellv (v := .int .i64 0) (HS.out.at2) 0 rfl
        have hz334 := blk_fz (HS.out.at2) 0
        have hc335 := blk_cellv (v := .int .i64 0) (HS.out.at2) 1 rfl
        have hz336 := blk_fz (HS.out.at2) 1
        have hc337 := blk_cellv (v := .int .i64 0) (HS.out.at2) 2 rfl
        have hz338 := blk_fz (HS.out.at2) 2
        have hc339 := blk_cellv (v := .int .i64 0) (HS.out.at2) 3 rfl
        have hz340 := blk_fz (HS.out.at2) 3
        have hc341 := blk_cellv (v := .int .i64 0) (HS.out.at2) 4 rfl
        have hz342 := blk_fz (HS.out.at2) 4
        have hc343 := blk_cellv (v := .int .i64 0) (HS.out.at2) 5 rfl
        have hz344 := blk_fz (HS.out.at2) 5
        have hc345 := blk_cellv (v := .int .i64 0) (HS.out.at2) 6 rfl
        have hz346 := blk_fz (HS.out.at2) 6
        have hc347 := blk_cellv (v := .int .i64 0) (HS.out.at2) 7 rfl
        have hz348 := blk_fz (HS.out.at2) 7
        refine store_step (w1 := (World.setCell (World.setCell (World.setCell (World.setCell (World.setCell (World.setCell (World.setCell (World.setCell w331 ⟨g319, 0, none⟩ (.int .i64 t189)) ⟨g319, 1, none⟩ (.int .i64 (wrap64 (a29 - 8)))) ⟨g319, 2, none⟩ (.int .i64 0)) ⟨g319, 3, none⟩ (.int .i64 0)) ⟨g319, 4, none⟩ (.int .i64 0)) ⟨g319, 5, none⟩ (.int .i64 0)) ⟨g319, 6, none⟩ (.int .i64 0)) ⟨g319, 7, none⟩ (.int .i64 0))) (by rfl) rfl ?hr ?_
        case hr => first | (go_simp; done) | (go_simp; rfl)
        clear hc333 hz334 hc335 hz336 hc337 hz338 hc339 hz340 hc341 hz342 hc343 hz344 hc345 hz346 hc347 hz348
        intro w332 hst
        replace HS : Aside0 (Sep (fps []) w [b2 g32 a28 a29 a30 a31, b3 g35 0 0 0 0 0 0 0 0, b3 g319 t189 (wrap64 (a29 - 8)) 0 0 0 0 0 0, b4 g322 a28 a29, b5 g327 24 a30 t163] w332) := ⟨by rw [hst]; exact HS.out.setAll (l1 := [b2 g32 a28 a29 a30 a31, b3 g35 0 0 0 0 0 0 0 0]) (l2 := [b4 g322 a28 a29, b5 g327 24 a30 t163]) [.int .i64 t189, .int .i64 (wrap64 (a29 - 8)), .int .i64 0, .int .i64 0, .int .i64 0, .int .i64 0, .int .i64 0, .int .i64 0] rfl⟩
        clear hst
        refine hK.out _ _ (⟨blk_cellv (HS.out.at0) 2 rfl, blk_cellv (HS.out.at0) 0 rfl, blk_cellv (HS.out.at0) 1 rfl⟩) (fun hHeld => ?_)
        clear hK K
        refine done_ (by kernel_rfl) ?_
        go_wp2_with fail
        go_meet
        case rel => exact ⟨g322, g327, g319, (by first | rfl | (simp [IntKind.wrap_u32]; done)), ⟨(((((HS.out).front 2 (by simp)).front 4 (by simp)).front 4 (by simp)).front 4 (by simp)).front 4 (by simp)⟩⟩
    case rest =>
      clear HS
      obtain ⟨g89, g166, g192, rfl, HS⟩ := hcut
      obtain ⟨w212, rfl⟩ : ∃ x : World, x = wc := ⟨_, rfl⟩
      replace HS : Aside0 (Sep (fps []) w [b2 g32 a28 a29 a30 a31, b3 g35 0 0 0 0 0 0 0 0, b3 g192 t189 (wrap64 (a29 - 8)) 0 0 0 0 0 0] w212) := ⟨HS.out.sub (.cons_cons _ (.cons_cons _ (.cons _ (.cons _ (.cons_cons _ .slnil)))))⟩
      have hc349 : w212.cell? ⟨g192, 1, none⟩ = some (.int .i64 (wrap64 (a29 - 8))) := blk_cellv (HS.out.at2) 1 rfl
      have hc350 : w212.cell? ⟨g192, 2, none⟩ = some (.int .i64 0) := blk_cellv (HS.out.at2) 2 rfl
      have hz351 : w212.frozen? ⟨g192, 2, none⟩ = false := blk_fz (HS.out.at2) 2
      go_wp2_with (first | ((with_reducible refine gate_store (t := 3) (p := 29) rfl ?_); refine store_event (w1 := (World.setCell w212 ⟨g192, 2, none⟩ (.int .i64 (wrap64 ((wrap64 (a29 - 8)) + 1))))) rfl (t := 3) (p := 29) rfl rfl ?hr ?_; (case hr => first | (go_simp; done) | (go_simp; rfl)); intro w352 hst; clear hc349 hc350 hz351; have hq0 : Sep (fps []) w [b2 g32 a28 a29 a30 a31, b3 g35 0 0 0 0 0 0 0 0, b3 g192 t189 (wrap64 (a29 - 8)) (wrap64 ((wrap64 (a29 - 8)) + 1)) 0 0 0 0 0] (World.setCell w212 ⟨g192, 2, none⟩ (.int .i64 (wrap64 ((wrap64 (a29 - 8)) + 1)))) := (HS.out).set1 (l1 := [b2 g32 a28 a29 a30 a31, b3 g35 0 0 0 0 0 0 0 0]) (l2 := []) 2 (.int .i64 (wrap64 ((wrap64 (a29 - 8)) + 1))); replace HS : Aside0 (Sep (fps []) w [b2 g32 a28 a29 a30 a31, b3 g35 0 0 0 0 0 0 0 0, b3 g192 t189 (wrap64 (a29 - 8)) (wrap64 ((wrap64 (a29 - 8)) + 1)) 0 0 0 0 0] w352) := ⟨by rw [hst]; exact hq0⟩; clear hq0; clear hst; have hc353 : w352.cell? ⟨g192, 1, none⟩ = some (.int .i64 (wrap64 (a29 - 8))) := blk_cellv (HS.out.at2) 1 rfl; have hc354 : w352.cell? ⟨g32, 1, none⟩ = some (.int .i64 a29) := blk_cellv (HS.out.at0) 1 rfl) | ((with_reducible refine gate_dst (N := 35) rfl ?_); refine slice_on (n := 2) ?hg (N := 35) ?hd (cs := #[.int .i64 (wrap64 (a29 - 8)), .int .i64 (wrap64 (a29 - 1))]) (t := 3) ?hr ?_; (case hd => rfl); (case hg => rfl); (case hr => first | (go_simp; done) | (go_simp; rfl)); intro g355 hg w356 hbox hb; clear hc353 hc354; replace HS : Aside0 (Sep (fps []) w [b2 g32 a28 a29 a30 a31, b3 g35 0 0 0 0 0 0 0 0, b3 g192 t189 (wrap64 (a29 - 8)) (wrap64 ((wrap64 (a29 - 8)) + 1)) 0 0 0 0 0, b4 g355 (wrap64 (a29 - 8)) (wrap64 (a29 - 1))] w356) := ⟨HS.out.box hg hbox hb⟩; clear hg hbox hb))
      obtain ⟨t358, HA359, H⟩ := bind_some H
      refine (ratio_Mul.calls _ [wrap64 (a29 - 8), wrap64 (a29 - 1)] (some ⟨g355, 0, none⟩) 2 t358 _ ⟨Rd.lit (l := []) (xs := [wrap64 (a29 - 8), wrap64 (a29 - 1)]) HS.out 3 rfl (by simp)⟩ ⟨HGl0.out.pass (l := []) HS.out⟩ ⟨Sep.start _⟩ HA359).mono ?_
      rintro e_ w360 ⟨rfl, hS⟩
      replace HS : Aside0 (Sep (fps []) w [b2 g32 a28 a29 a30 a31, b3 g35 0 0 0 0 0 0 0 0, b3 g192 t189 (wrap64 (a29 - 8)) (wrap64 ((wrap64 (a29 - 8)) + 1)) 0 0 0 0 0, b4 g355 (wrap64 (a29 - 8)) (wrap64 (a29 - 1))] w360) := ⟨HS.out.call hS⟩
      clear hS
      have hc361 : w360.cell? ⟨g192, 3, none⟩ = some (.int .i64 0) := blk_cellv (HS.out.at2) 3 rfl
      have hz362 : w360.frozen? ⟨g192, 3, none⟩ = false := blk_fz (HS.out.at2) 3
      go_wp2_with (first | ((with_reducible refine gate_store (t := 3) (p := 37) rfl ?_); refine store_event (w1 := (World.setCell w360 ⟨g192, 3, none⟩ (.int .i64 t358))) rfl (t := 3) (p := 37) rfl rfl ?hr ?_; (case hr => first | (go_simp; done) | (go_simp; rfl)); intro w363 hst; clear hc361 hz362; have hq0 : Sep (fps []) w [b2 g32 a28 a29 a30 a31, b3 g35 0 0 0 0 0 0 0 0, b3 g192 t189 (wrap64 (a29 - 8)) (wrap64 ((wrap64 (a29 - 8)) + 1)) t358 0 0 0 0, b4 g355 (wrap64 (a29 - 8)) (wrap64 (a29 - 1))] (World.setCell w360 ⟨g192, 3, none⟩ (.int .i64 t358)) := (HS.out).set1 (l1 := [b2 g32 a28 a29 a30 a31, b3 g35 0 0 0 0 0 0 0 0]) (l2 := [b4 g355 (wrap64 (a29 - 8)) (wrap64 (a29 - 1))]) 3 (.int .i64 t358); replace HS : Aside0 (Sep (fps []) w [b2 g32 a28 a29 a30 a31, b3 g35 0 0 0 0 0 0 0 0, b3 g192 t189 (wrap64 (a29 - 8)) (wrap64 ((wrap64 (a29 - 8)) + 1)) t358 0 0 0 0, b4 g355 (wrap64 (a29 - 8)) (wrap64 (a29 - 1))] w363) := ⟨by rw [hst]; exact hq0⟩; clear hq0; clear hst; replace HS : Aside0 (Sep (fps []) w [b2 g32 a28 a29 a30 a31, b3 g35 0 0 0 0 0 0 0 0, b3 g192 t189 (wrap64 (a29 - 8)) (wrap64 ((wrap64 (a29 - 8)) + 1)) t358 0 0 0 0] w363) := ⟨HS.out.sub (.cons_cons _ (.cons_cons _ (.cons_cons _ (.cons _ .slnil))))⟩; have hc364 : w363.cell? ⟨g32, 0, none⟩ = some (.int .i64 a28) := blk_cellv (HS.out.at0) 0 rfl; have hc365 : w363.cell? ⟨g32, 1, none⟩ = some (.int .i64 a29) := blk_cellv (HS.out.at0) 1 rfl) | ((with_reducible refine gate_dst (N := 43) rfl ?_); refine slice_on (n := 2) ?hg (N := 43) ?hd (cs := #[.int .i64 a28, .int .i64 (wrap64 (a29 + 1))]) (t := 3) ?hr ?_; (case hd => rfl); (case hg => rfl); (case hr => first | (go_simp; done) | (go_simp; rfl)); intro g366 hg w367 hbox hb; clear hc364 hc365; replace HS : Aside0 (Sep (fps []) w [b2 g32 a28 a29 a30 a31, b3 g35 0 0 0 0 0 0 0 0, b3 g192 t189 (wrap64 (a29 - 8)) (wrap64 ((wrap64 (a29 - 8)) + 1)) t358 0 0 0 0, b4 g366 a28 (wrap64 (a29 + 1))] w367) := ⟨HS.out.box hg hbox hb⟩; clear hg hbox hb))
      obtain ⟨t369, HA370, H⟩ := bind_some H
      refine (ratio_Mul.calls _ [a28, wrap64 (a29 + 1)] (some ⟨g366, 0, none⟩) 2 t369 _ ⟨Rd.lit (l := []) (xs := [a28, wrap64 (a29 + 1)]) HS.out 3 rfl (by simp)⟩ ⟨HGl0.out.pass (l := []) HS.out⟩ ⟨Sep.start _⟩ HA370).mono ?_
      rintro e_ w371 ⟨rfl, hS⟩
      replace HS : Aside0 (Sep (fps []) w [b2 g32 a28 a29 a30 a31, b3 g35 0 0 0 0 0 0 0 0, b3 g192 t189 (wrap64 (a29 - 8)) (wrap64 ((wrap64 (a29 - 8)) + 1)) t358 0 0 0 0, b4 g366 a28 (wrap64 (a29 + 1))] w371) := ⟨HS.out.call hS⟩
      clear hS
      have hc372 : w371.cell? ⟨g192, 5, none⟩ = some (.int .i64 0) := blk_cellv (HS.out.at2) 5 rfl
      have hz373 : w371.frozen? ⟨g192, 5, none⟩ = false := blk_fz (HS.out.at2) 5
      go_wp2_with (first | ((with_reducible refine gate_store (t := 3) (p := 45) rfl ?_); refine store_event (w1 := (World.setCell w371 ⟨g192, 5, none⟩ (.int .i64 t369))) rfl (t := 3) (p := 45) rfl rfl ?hr ?_; (case hr => first | (go_simp; done) | (go_simp; rfl)); intro w374 hst; clear hc372 hz373; have hq0 : Sep (fps []) w [b2 g32 a28 a29 a30 a31, b3 g35 0 0 0 0 0 0 0 0, b3 g192 t189 (wrap64 (a29 - 8)) (wrap64 ((wrap64 (a29 - 8)) + 1)) t358 0 t369 0 0, b4 g366 a28 (wrap64 (a29 + 1))] (World.setCell w371 ⟨g192, 5, none⟩ (.int .i64 t369)) := (HS.out).set1 (l1 := [b2 g32 a28 a29 a30 a31, b3 g35 0 0 0 0 0 0 0 0]) (l2 := [b4 g366 a28 (wrap64 (a29 + 1))]) 5 (.int .i64 t369); replace HS : Aside0 (Sep (fps []) w [b2 g32 a28 a29 a30 a31, b3 g35 0 0 0 0 0 0 0 0, b3 g192 t189 (wrap64 (a29 - 8)) (wrap64 ((wrap64 (a29 - 8)) + 1)) t358 0 t369 0 0, b4 g366 a28 (wrap64 (a29 + 1))] w374) := ⟨by rw [hst]; exact hq0⟩; clear hq0; clear hst; replace HS : Aside0 (Sep (fps []) w [b2 g32 a28 a29 a30 a31, b3 g35 0 0 0 0 0 0 0 0, b3 g192 t189 (wrap64 (a29 - 8)) (wrap64 ((wrap64 (a29 - 8)) + 1)) t358 0 t369 0 0] w374) := ⟨HS.out.sub (.cons_cons _ (.cons_cons _ (.cons_cons _ (.cons _ .slnil))))⟩; have hc375 : w374.cell? ⟨g192, 5, none⟩ = some (.int .i64 t369) := blk_cellv (HS.out.at2) 5 rfl) | ((with_reducible refine gate_dst (N := 48) rfl ?_); refine slice_on (n := 2) ?hg (N := 48) ?hd (cs := #[.int .i64 3, .int .i64 t369]) (t := 3) ?hr ?_; (case hd => rfl); (case hg => rfl); (case hr => first | (go_simp; done) | (go_simp; rfl)); intro g376 hg w377 hbox hb; clear hc375; replace HS : Aside0 (Sep (fps []) w [b2 g32 a28 a29 a30 a31, b3 g35 0 0 0 0 0 0 0 0, b3 g192 t189 (wrap64 (a29 - 8)) (wrap64 ((wrap64 (a29 - 8)) + 1)) t358 0 t369 0 0, b4 g376 3 t369] w377) := ⟨HS.out.box hg hbox hb⟩; clear hg hbox hb))
      obtain ⟨t379, HA380, H⟩ := bind_some H
      refine (ratio_Mul.calls _ [3, t369] (some ⟨g376, 0, none⟩) 2 t379 _ ⟨Rd.lit (l := []) (xs := [3, t369]) HS.out 3 rfl (by simp)⟩ ⟨HGl0.out.pass (l := []) HS.out⟩ ⟨Sep.start _⟩ HA380).mono ?_
      rintro e_ w381 ⟨rfl, hS⟩
      replace HS : Aside0 (Sep (fps []) w [b2 g32 a28 a29 a30 a31, b3 g35 0 0 0 0 0 0 0 0, b3 g192 t189 (wrap64 (a29 - 8)) (wrap64 ((wrap64 (a29 - 8)) + 1)) t358 0 t369 0 0, b4 g376 3 t369] w381) := ⟨HS.out.call hS⟩
      clear hS
      go_wp2_with (first | ((with_reducible refine gate_dst (N := 50) rfl ?_); refine slice_on (n := 2) ?hg (N := 50) ?hd (cs := #[.int .i64 t379, .int .i64 4]) (t := 3) ?hr ?_; (case hd => rfl); (case hg => rfl); (case hr => first | (go_simp; done) | (go_simp; rfl)); intro g382 hg w383 hbox hb; replace HS : Aside0 (Sep (fps []) w [b2 g32 a28 a29 a30 a31, b3 g35 0 0 0 0 0 0 0 0, b3 g192 t189 (wrap64 (a29 - 8)) (wrap64 ((wrap64 (a29 - 8)) + 1)) t358 0 t369 0 0, b4 g376 3 t369, b4 g382 t379 4] w383) := ⟨HS.out.box hg hbox hb⟩; clear hg hbox hb))
      obtain ⟨t385, HA386, H⟩ := bind_some H
      refine (ratio_Add.calls _ [t379, 4] (some ⟨g382, 0, none⟩) 2 t385 _ ⟨Rd.lit (l := []) (xs := [t379, 4]) HS.out 4 rfl (by simp)⟩ ⟨HGl0.out.pass (l := []) HS.out⟩ ⟨Sep.start _⟩ HA386).mono ?_
      rintro e_ w387 ⟨rfl, hS⟩
      replace HS : Aside0 (Sep (fps []) w [b2 g32 a28 a29 a30 a31, b3 g35 0 0 0 0 0 0 0 0, b3 g192 t189 (wrap64 (a29 - 8)) (wrap64 ((wrap64 (a29 - 8)) + 1)) t358 0 t369 0 0, b4 g376 3 t369, b4 g382 t379 4] w387) := ⟨HS.out.call hS⟩
      clear hS
      have hc388 : w387.cell? ⟨g192, 4, none⟩ = some (.int .i64 0) := blk_cellv (HS.out.at2) 4 rfl
      have hz389 : w387.frozen? ⟨g192, 4, none⟩ = false := blk_fz (HS.out.at2) 4
      go_wp2_with (first | ((with_reducible refine gate_store (t := 3) (p := 52) rfl ?_); refine store_event (w1 := (World.setCell w387 ⟨g192, 4, none⟩ (.int .i64 t385))) rfl (t := 3) (p := 52) rfl rfl ?hr ?_; (case hr => first | (go_simp; done) | (go_simp; rfl)); intro w390 hst; clear hc388 hz389; have hq0 : Sep (fps []) w [b2 g32 a28 a29 a30 a31, b3 g35 0 0 0 0 0 0 0 0, b3 g192 t189 (wrap64 (a29 - 8)) (wrap64 ((wrap64 (a29 - 8)) + 1)) t358 t385 t369 0 0, b4 g376 3 t369, b4 g382 t379 4] (World.setCell w387 ⟨g192, 4, none⟩ (.int .i64 t385)) := (HS.out).set1 (l1 := [b2 g32 a28 a29 a30 a31, b3 g35 0 0 0 0 0 0 0 0]) (l2 := [b4 g376 3 t369, b4 g382 t379 4]) 4 (.int .i64 t385); replace HS : Aside0 (Sep (fps []) w [b2 g32 a28 a29 a30 a31, b3 g35 0 0 0 0 0 0 0 0, b3 g192 t189 (wrap64 (a29 - 8)) (wrap64 ((wrap64 (a29 - 8)) + 1)) t358 t385 t369 0 0, b4 g376 3 t369, b4 g382 t379 4] w390) := ⟨by rw [hst]; exact hq0⟩; clear hq0; clear hst; replace HS : Aside0 (Sep (fps []) w [b2 g32 a28 a29 a30 a31, b3 g35 0 0 0 0 0 0 0 0, b3 g192 t189 (wrap64 (a29 - 8)) (wrap64 ((wrap64 (a29 - 8)) + 1)) t358 t385 t369 0 0] w390) := ⟨HS.out.sub (.cons_cons _ (.cons_cons _ (.cons_cons _ (.cons _ (.cons _ .slnil)))))⟩))
      obtain ⟨t410, HA411, H⟩ := bind_some H
      obtain ⟨t416, HA417, H⟩ := bind_some H
      obtain ⟨t422, HA423, H⟩ := bind_some H
      obtain ⟨t428, HA429, H⟩ := bind_some H
      go_cut [] (fun wc => ∃ (g413 : Nat) (g419 : Nat) (g425 : Nat), Aside0 (Sep (fps []) w [b2 g32 a28 a29 a30 a31, b3 g35 0 0 0 0 0 0 0 0, b3 g192 t189 (wrap64 (a29 - 8)) (wrap64 ((wrap64 (a29 - 8)) + 1)) t358 t385 t369 t428 0, b4 g413 2 t410, b4 g419 2 (wrap64 ((wrap64 (a29 - 8)) + 1)), b4 g425 t416 t422] wc))
      case first =>
        go_wp2_with fail
        refine start_ (n := 15) (S := (fun w' => w'.cell? ⟨g192, 4, none⟩ = some (.int .i64 t385) ∧ w'.cell? ⟨g32, 3, none⟩ = some (.int .i64 a31) ∧ w'.cell? ⟨g192, 2, none⟩ = some (.int .i64 (wrap64 ((wrap64 (a29 - 8)) + 1))))) (ds := []) #[false, false, false, false, false, false, false, false, false, false, false, false, false, false, false] (by kernel_rfl) rfl rfl (⟨blk_cellv ((HS.out.drew).at2) 4 rfl, blk_cellv ((HS.out.drew).at0) 3 rfl, blk_cellv ((HS.out.drew).at2) 2 rfl⟩) (fun hHeld => ?_)
        have HS_ := Aside0.mk HS.out.drew
        clear HS
        generalize World.drew _ = w436 at HS_ hHeld ⊢
        have HS := HS_
        clear HS_
        refine pure_ (i := 0) (N := some 53) (v := ?_) (a' := ?_) #[true, false, false, false, false, false, false, false, false, false, false, false, false, false, false] rfl rfl (by kernel_rfl) (fun _ _ _ h => h) (Or.inl ⟨by rfl, ?_⟩) ?_ ?_
        rotate_left
        · intro w'
          go_simp
          with_reducible rfl
        rotate_left
        · simp only [Act.put, List.setIfInBounds_toArray, List.set_cons_zero, List.set_cons_succ, i64_w, i32_w]
          rfl
        refine pure_ (i := 2) (N := some 55) (v := ?_) (a' := ?_) #[true, false, true, false, false, false, false, false, false, false, false, false, false, false, false] rfl rfl (by kernel_rfl) (fun _ _ _ h => h) (Or.inl ⟨by rfl, ?_⟩) ?_ ?_
        rotate_left
        · intro w'
          go_simp
          with_reducible rfl
        rotate_left
        · simp only [Act.put, List.setIfInBounds_toArray, List.set_cons_zero, List.set_cons_succ, i64_w, i32_w]
          rfl
        refine pure_ (i := 7) (N := some 60) (v := ?_) (a' := ?_) #[true, false, true, false, false, false, false, true, false, false, false, false, false, false, false] rfl rfl (by kernel_rfl) (fun _ _ _ h => h) (Or.inl ⟨by rfl, ?_⟩) ?_ ?_
        rotate_left
        · intro w'
          go_simp
          with_reducible rfl
        rotate_left
        · simp only [Act.put, List.setIfInBounds_toArray, List.set_cons_zero, List.set_cons_succ, i64_w, i32_w]
          rfl
        refine take_ (i := 1) (N := some 54) (v := ?_) (a' := ?_) #[true, true, true, false, false, false, false, true, false, false, false, false, false, false, false] rfl rfl (by kernel_rfl) (fun _ _ _ h => h) (Or.inl ⟨by rfl, ?_⟩) hHeld ?_ ?_
        rotate_left
        · rintro w' hS'
          obtain ⟨s0, s1, s2⟩ := hS'
          go_simp
          with_reducible rfl
        rotate_left
        · simp only [Act.put, List.setIfInBounds_toArray, List.set_cons_zero, List.set_cons_succ, i64_w, i32_w]
          rfl
        refine take_ (i := 3) (N := some 56) (v := ?_) (a' := ?_) #[true, true, true, true, false, false, false, true, false, false, false, false, false, false, false] rfl rfl (by kernel_rfl) (fun _ _ _ h => h) (Or.inl ⟨by rfl, ?_⟩) hHeld ?_ ?_
        rotate_left
        · rintro w' hS'
          obtain ⟨s0, s1, s2⟩ := hS'
          go_simp
          with_reducible rfl
        rotate_left
        · simp only [Act.put, List.setIfInBounds_toArray, List.set_cons_zero, List.set_cons_succ, i64_w, i32_w]
          rfl
        refine take_ (i := 8) (N := some 61) (v := ?_) (a' := ?_) #[true, true, true, true, false, false, false, true, true, false, false, false, false, false, false] rfl rfl (by kernel_rfl) (fun _ _ _ h => h) (Or.inl ⟨by rfl, ?_⟩) hHeld ?_ ?_
        rotate_left
        · rintro w' hS'
          obtain ⟨s0, s1, s2⟩ := hS'
          go_simp
          with_reducible rfl
        rotate_left
        · simp only [Act.put, List.setIfInBounds_toArray, List.set_cons_zero, List.set_cons_succ, i64_w, i32_w]
          rfl
        refine two_ (i := 4) (j := 9) (Ni := some 57) (Nj := some 62) #[true, true, true, true, true, false, false, true, true, false, false, false, false, false, false] #[true, true, true, true, false, false, false, true, true, true, false, false, false, false, false] rfl rfl rfl rfl (by kernel_rfl) (by decide) (by decide) (fun K hK => ?_) (fun K hK => ?_)
        · refine goes_ Tryd.func124 (by kernel_rfl) rfl #[.int .i64 t385, .int .i64 a31] (by rfl) rfl rfl (by (try simp only [List.map_toArray, List.map_cons, List.map_nil]); first | done | rfl) ?_
          refine (ratio_Up.calls t385 a31 t410 _ ⟨HGl0.out.pass (l := []) HS.out⟩ ⟨Sep.start _⟩ HA411).mono ?_
          rintro e_ w438 ⟨rfl, hS⟩
          replace HS : Aside0 (Sep (fps []) w [b2 g32 a28 a29 a30 a31, b3 g35 0 0 0 0 0 0 0 0, b3 g192 t189 (wrap64 (a29 - 8)) (wrap64 ((wrap64 (a29 - 8)) + 1)) t358 t385 t369 0 0] w438) := ⟨HS.out.call hS⟩
          clear hS
          refine ⟨_, rfl, ?_⟩
          refine hK.out _ _ (⟨blk_cellv (HS.out.at2) 4 rfl, blk_cellv (HS.out.at0) 3 rfl, blk_cellv (HS.out.at2) 2 rfl⟩) (fun hHeld => ?_)
          clear hK K
          refine norm_ (a' := ?_) ?_ ?_
          rotate_left
          · show Act.put _ (some 57) _ = _
            simp only [Act.put, List.setIfInBounds_toArray, List.set_cons_zero, List.set_cons_succ, i64_w, i32_w]
            rfl
          refine two_ (i := 5) (j := 9) (Ni := some 58) (Nj := some 62) #[true, true, true, true, true, true, false, true, true, false, false, false, false, false, false] #[true, true, true, true, true, false, false, true, true, true, false, false, false, false, false] rfl rfl rfl rfl (by kernel_rfl) (by decide) (by decide) (fun K hK => ?_) (fun K hK => ?_)
          · refine slice_step (n := 2) (by rfl) (N := 58) rfl (cs := #[.int .i64 2, .int .i64 t410]) (t := 3) ?hr ?_
            case hr => first | (go_simp; done) | (go_simp; rfl)
            intro g439 hg w440 hbox hb
            replace HS : Aside0 (Sep (fps []) w [b2 g32 a28 a29 a30 a31, b3 g35 0 0 0 0 0 0 0 0, b3 g192 t189 (wrap64 (a29 - 8)) (wrap64 ((wrap64 (a29 - 8)) + 1)) t358 t385 t369 0 0, b4 g439 2 t410] w440) := ⟨HS.out.box hg hbox hb⟩
            clear hg hbox hb
            refine hK.out _ _ (⟨blk_cellv (HS.out.at2) 4 rfl, blk_cellv (HS.out.at0) 3 rfl, blk_cellv (HS.out.at2) 2 rfl⟩) (fun hHeld => ?_)
            clear hK K
            refine norm_ (a' := ?_) ?_ ?_
            rotate_left
            · show Act.put _ (some 58) _ = _
              simp only [Act.put, List.setIfInBounds_toArray, List.set_cons_zero, List.set_cons_succ, i64_w, i32_w]
              rfl
            refine two_ (i := 6) (j := 9) (Ni := some 59) (Nj := some 62) #[true, true, true, true, true, true, true, true, true, false, false, false, false, false, false] #[true, true, true, true, true, true, false, true, true, true, false, false, false, false, false] rfl rfl rfl rfl (by kernel_rfl) (by decide) (by decide) (fun K hK => ?_) (fun K hK => ?_)
            · refine goes_ Tryd.func123 (by kernel_rfl) rfl #[.slice (some ⟨g439, 0, none⟩) 2 2] (by rfl) rfl rfl (by (try simp only [List.map_toArray, List.map_cons, List.map_nil]); first | done | rfl) ?_
              refine (ratio_Mul.calls _ [2, t410] (some ⟨g439, 0, none⟩) 2 t416 _ ⟨Rd.lit (l := []) (xs := [2, t410]) HS.out 3 rfl (by simp)⟩ ⟨HGl0.out.pass (l := []) HS.out⟩ ⟨Sep.start _⟩ HA417).mono ?_
              rintro e_ w443 ⟨rfl, hS⟩
              replace HS : Aside0 (Sep (fps []) w [b2 g32 a28 a29 a30 a31, b3 g35 0 0 0 0 0 0 0 0, b3 g192 t189 (wrap64 (a29 - 8)) (wrap64 ((wrap64 (a29 - 8)) + 1)) t358 t385 t369 0 0, b4 g439 2 t410] w443) := ⟨HS.out.call hS⟩
              clear hS
              refine ⟨_, rfl, ?_⟩
              refine hK.out _ _ (⟨blk_cellv (HS.out.at2) 4 rfl, blk_cellv (HS.out.at0) 3 rfl, blk_cellv (HS.out.at2) 2 rfl⟩) (fun hHeld => ?_)
              clear hK K
              refine norm_ (a' := ?_) ?_ ?_
              rotate_left
              · show Act.put _ (some 59) _ = _
                simp only [Act.put, List.setIfInBounds_toArray, List.set_cons_zero, List.set_cons_succ, i64_w, i32_w]
                rfl
              refine one_ (i := 9) (N := some 62) #[true, true, true, true, true, true, true, true, true, true, false, false, false, false, false] rfl rfl (by kernel_rfl) (by decide) (fun K hK => ?_)
              refine slice_step (n := 2) (by rfl) (N := 62) rfl (cs := #[.int .i64 2, .int .i64 (wrap64 ((wrap64 (a29 - 8)) + 1))]) (t := 3) ?hr ?_
              case hr => first | (go_simp; done) | (go_simp; rfl)
              intro g444 hg w445 hbox hb
              replace HS : Aside0 (Sep (fps []) w [b2 g32 a28 a29 a30 a31, b3 g35 0 0 0 0 0 0 0 0, b3 g192 t189 (wrap64 (a29 - 8)) (wrap64 ((wrap64 (a29 - 8)) + 1)) t358 t385 t369 0 0, b4 g439 2 t410, b4 g444 2 (wrap64 ((wrap64 (a29 - 8)) + 1))] w445) := ⟨HS.out.box hg hbox hb⟩
              clear hg hbox hb
              refine hK.out _ _ (⟨blk_cellv (HS.out.at2) 4 rfl, blk_cellv (HS.out.at0) 3 rfl, blk_cellv (HS.out.at2) 2 rfl⟩) (fun hHeld => ?_)
              clear hK K
              refine norm_ (a' := ?_) ?_ ?_
              rotate_left
              · show Act.put _ (some 62) _ = _
                simp only [Act.put, List.setIfInBounds_toArray, List.set_cons_zero, List.set_cons_succ, i64_w, i32_w]
                rfl
              refine one_ (i := 10) (N := some 63) #[true, true, true, true, true, true, true, true, true, true, true, false, false, false, false] rfl rfl (by kernel_rfl) (by decide) (fun K hK => ?_)
              refine goes_ Tryd.func123 (by kernel_rfl) rfl #[.slice (some ⟨g444, 0, none⟩) 2 2] (by rfl) rfl rfl (by (try simp only [List.map_toArray, List.map_cons, List.map_nil]); first | done | rfl) ?_
              refine (ratio_Mul.calls _ [2, wrap64 ((wrap64 (a29 - 8)) + 1)] (some ⟨g444, 0, none⟩) 2 t422 _ ⟨Rd.lit (l := []) (xs := [2, wrap64 ((wrap64 (a29 - 8)) + 1)]) HS.out 4 rfl (by simp)⟩ ⟨HGl0.out.pass (l := []) HS.out⟩ ⟨Sep.start _⟩ HA423).mono ?_
              rintro e_ w448 ⟨rfl, hS⟩
              replace HS : Aside0 (Sep (fps []) w [b2 g32 a28 a29 a30 a31, b3 g35 0 0 0 0 0 0 0 0, b3 g192 t189 (wrap64 (a29 - 8)) (wrap64 ((wrap64 (a29 - 8)) + 1)) t358 t385 t369 0 0, b4 g439 2 t410, b4 g444 2 (wrap64 ((wrap64 (a29 - 8)) + 1))] w448) := ⟨HS.out.call hS⟩
              clear hS
              refine ⟨_, rfl, ?_⟩
              refine hK.out _ _ (⟨blk_cellv (HS.out.at2) 4 rfl, blk_cellv (HS.out.at0) 3 rfl, blk_cellv (HS.out.at2) 2 rfl⟩) (fun hHeld => ?_)
              clear hK K
              refine norm_ (a' := ?_) ?_ ?_
              rotate_left
              · show Act.put _ (some 63) _ = _
                simp only [Act.put, List.setIfInBounds_toArray, List.set_cons_zero, List.set_cons_succ, i64_w, i32_w]
                rfl
              refine one_ (i := 11) (N := some 64) #[true, true, true, true, true, true, true, true, true, true, true, true, false, false, false] rfl rfl (by kernel_rfl) (by decide) (fun K hK => ?_)
              refine slice_step (n := 2) (by rfl) (N := 64) rfl (cs := #[.int .i64 t416, .int .i64 t422]) (t := 3) ?hr ?_
              case hr => first | (go_simp; done) | (go_simp; rfl)
              intro g449 hg w450 hbox hb
              replace HS : Aside0 (Sep (fps []) w [b2 g32 a28 a29 a30 a31, b3 g35 0 0 0 0 0 0 0 0, b3 g192 t189 (wrap64 (a29 - 8)) (wrap64 ((wrap64 (a29 - 8)) + 1)) t358 t385 t369 0 0, b4 g439 2 t410, b4 g444 2 (wrap64 ((wrap64 (a29 - 8)) + 1)), b4 g449 t416 t422] w450) := ⟨HS.out.box hg hbox hb⟩
              clear hg hbox hb
              refine hK.out _ _ (⟨blk_cellv (HS.out.at2) 4 rfl, blk_cellv (HS.out.at0) 3 rfl, blk_cellv (HS.out.at2) 2 rfl⟩) (fun hHeld => ?_)
              clear hK K
              refine norm_ (a' := ?_) ?_ ?_
              rotate_left
              · show Act.put _ (some 64) _ = _
                simp only [Act.put, List.setIfInBounds_toArray, List.set_cons_zero, List.set_cons_succ, i64_w, i32_w]
                rfl
              refine one_ (i := 12) (N := some 65) #[true, true, true, true, true, true, true, true, true, true, true, true, true, false, false] rfl rfl (by kernel_rfl) (by decide) (fun K hK => ?_)
              refine goes_ Tryd.func122 (by kernel_rfl) rfl #[.slice (some ⟨g449, 0, none⟩) 2 2] (by rfl) rfl rfl (by (try simp only [List.map_toArray, List.map_cons, List.map_nil]); first | done | rfl) ?_
              refine (ratio_Add.calls _ [t416, t422] (some ⟨g449, 0, none⟩) 2 t428 _ ⟨Rd.lit (l := []) (xs := [t416, t422]) HS.out 5 rfl (by simp)⟩ ⟨HGl0.out.pass (l := []) HS.out⟩ ⟨Sep.start _⟩ HA429).mono ?_
              rintro e_ w453 ⟨rfl, hS⟩
              replace HS : Aside0 (Sep (fps []) w [b2 g32 a28 a29 a30 a31, b3 g35 0 0 0 0 0 0 0 0, b3 g192 t189 (wrap64 (a29 - 8)) (wrap64 ((wrap64 (a29 - 8)) + 1)) t358 t385 t369 0 0, b4 g439 2 t410, b4 g444 2 (wrap64 ((wrap64 (a29 - 8)) + 1)), b4 g449 t416 t422] w453) := ⟨HS.out.call hS⟩
              clear hS
              refine ⟨_, rfl, ?_⟩
              refine hK.out _ _ (⟨blk_cellv (HS.out.at2) 4 rfl, blk_cellv (HS.out.at0) 3 rfl, blk_cellv (HS.out.at2) 2 rfl⟩) (fun hHeld => ?_)
              clear hK K
              refine norm_ (a' := ?_) ?_ ?_
              rotate_left
              · show Act.put _ (some 65) _ = _
                simp only [Act.put, List.setIfInBounds_toArray, List.set_cons_zero, List.set_cons_succ, i64_w, i32_w]
                rfl
              refine pure_ (i := 13) (N := some 66) (v := ?_) (a' := ?_) #[true, true, true, true, true, true, true, true, true, true, true, true, true, true, false] rfl rfl (by kernel_rfl) (fun _ _ _ h => h) (Or.inl ⟨by rfl, ?_⟩) ?_ ?_
              rotate_left
              · intro w'
                go_simp
                with_reducible rfl
              rotate_left
              · simp only [Act.put, List.setIfInBounds_toArray, List.set_cons_zero, List.set_cons_succ, i64_w, i32_w]
                rfl
              refine one_ (i := 14) (N := none) #[true, true, true, true, true, true, true, true, true, true, true, true, true, true, true] rfl rfl (by kernel_rfl) (by decide) (fun K hK => ?_)
              have hc455 := blk_cellv (v := .int .i64 0) (HS.out.at2) 6 rfl
              have hz456 := blk_fz (HS.out.at2) 6
              refine store_step (w1 := (World.setCell w453 ⟨g192, 6, none⟩ (.int .i64 t428))) (by rfl) rfl ?hr ?_
              case hr => first | (go_simp; done) | (go_simp; rfl)
              clear hc455 hz456
              intro w454 hst
              have hq0 : Sep (fps []) w [b2 g32 a28 a29 a30 a31, b3 g35 0 0 0 0 0 0 0 0, b3 g192 t189 (wrap64 (a29 - 8)) (wrap64 ((wrap64 (a29 - 8)) + 1)) t358 t385 t369 t428 0, b4 g439 2 t410, b4 g444 2 (wrap64 ((wrap64 (a29 - 8)) + 1)), b4 g449 t416 t422] (World.setCell w453 ⟨g192, 6, none⟩ (.int .i64 t428)) := (HS.out).set1 (l1 := [b2 g32 a28 a29 a30 a31, b3 g35 0 0 0 0 0 0 0 0]) (l2 := [b4 g439 2 t410, b4 g444 2 (wrap64 ((wrap64 (a29 - 8)) + 1)), b4 g449 t416 t422]) 6 (.int .i64 t428)
              have HS_ : Aside0 (Sep (fps []) w [b2 g32 a28 a29 a30 a31, b3 g35 0 0 0 0 0 0 0 0, b3 g192 t189 (wrap64 (a29 - 8)) (wrap64 ((wrap64 (a29 - 8)) + 1)) t358 t385 t369 t428 0, b4 g439 2 t410, b4 g444 2 (wrap64 ((wrap64 (a29 - 8)) + 1)), b4 g449 t416 t422] w454) := ⟨by rw [hst]; exact hq0⟩
              clear hq0
              clear HS hst
              have HS := HS_
              clear HS_
              refine hK.out _ _ (⟨blk_cellv (HS.out.at2) 4 rfl, blk_cellv (HS.out.at0) 3 rfl, blk_cellv (HS.out.at2) 2 rfl⟩) (fun hHeld => ?_)
              clear hK K
              refine done_ (by kernel_rfl) ?_
              go_wp2_with fail
              go_meet
              case rel => exact ⟨g439, g444, g449, ⟨((((((HS.out).front 5 (by simp)).front 5 (by simp)).front 5 (by simp)).front 5 (by simp)).front 5 (by simp)).front 5 (by simp)⟩⟩
            · refine slice_step (n := 2) (by rfl) (N := 62) rfl (cs := #[.int .i64 2, .int .i64 (wrap64 ((wrap64 (a29 - 8)) + 1))]) (t := 3) ?hr ?_
              case hr => first | (go_simp; done) | (go_simp; rfl)
              intro g457 hg w458 hbox hb
              replace HS : Aside0 (Sep (fps []) w [b2 g32 a28 a29 a30 a31, b3 g35 0 0 0 0 0 0 0 0, b3 g192 t189 (wrap64 (a29 - 8)) (wrap64 ((wrap64 (a29 - 8)) + 1)) t358 t385 t369 0 0, b4 g439 2 t410, b4 g457 2 (wrap64 ((wrap64 (a29 - 8)) + 1))] w458) := ⟨HS.out.box hg hbox hb⟩
              clear hg hbox hb
              refine hK.out _ _ (⟨blk_cellv (HS.out.at2) 4 rfl, blk_cellv (HS.out.at0) 3 rfl, blk_cellv (HS.out.at2) 2 rfl⟩) (fun hHeld => ?_)
              clear hK K
              refine norm_ (a' := ?_) ?_ ?_
              rotate_left
              · show Act.put _ (some 62) _ = _
                simp only [Act.put, List.setIfInBounds_toArray, List.set_cons_zero, List.set_cons_succ, i64_w, i32_w]
                rfl
              refine one_ (i := 6) (N := some 59) #[true, true, true, true, true, true, true, true, true, true, false, false, false, false, false] rfl rfl (by kernel_rfl) (by decide) (fun K hK => ?_)
              refine goes_ Tryd.func123 (by kernel_rfl) rfl #[.slice (some ⟨g439, 0, none⟩) 2 2] (by rfl) rfl rfl (by (try simp only [List.map_toArray, List.map_cons, List.map_nil]); first | done | rfl) ?_
              refine (ratio_Mul.calls _ [2, t410] (some ⟨g439, 0, none⟩) 2 t416 _ ⟨Rd.lit (l := []) (xs := [2, t410]) HS.out 3 rfl (by simp)⟩ ⟨HGl0.out.pass (l := []) HS.out⟩ ⟨Sep.start _⟩ HA417).mono ?_
              rintro e_ w461 ⟨rfl, hS⟩
              replace HS : Aside0 (Sep (fps []) w [b2 g32 a28 a29 a30 a31, b3 g35 0 0 0 0 0 0 0 0, b3 g192 t189 (wrap64 (a29 - 8)) (wrap64 ((wrap64 (a29 - 8)) + 1)) t358 t385 t369 0 0, b4 g439 2 t410, b4 g457 2 (wrap64 ((wrap64 (a29 - 8)) + 1))] w461) := ⟨HS.out.call hS⟩
              clear hS
              refine ⟨_, rfl, ?_⟩
              refine hK.out _ _ (⟨blk_cellv (HS.out.at2) 4 rfl, blk_cellv (HS.out.at0) 3 rfl, blk_cellv (HS.out.at2) 2 rfl⟩) (fun hHeld => ?_)
              clear hK K
              refine norm_ (a' := ?_) ?_ ?_
              rotate_left
              · show Act.put _ (some 59) _ = _
                simp only [Act.put, List.setIfInBounds_toArray, List.set_cons_zero, List.set_cons_succ, i64_w, i32_w]
                rfl
              refine one_ (i := 10) (N := some 63) #[true, true, true, true, true, true, true, true, true, true, true, false, false, false, false] rfl rfl (by kernel_rfl) (by decide) (fun K hK => ?_)
              refine goes_ Tryd.func123 (by kernel_rfl) rfl #[.slice (some ⟨g457, 0, none⟩) 2 2] (by rfl) rfl rfl (by (try simp only [List.map_toArray, List.map_cons, List.map_nil]); first | done | rfl) ?_
              refine (ratio_Mul.calls _ [2, wrap64 ((wrap64 (a29 - 8)) + 1)] (some ⟨g457, 0, none⟩) 2 t422 _ ⟨Rd.lit (l := []) (xs := [2, wrap64 ((wrap64 (a29 - 8)) + 1)]) HS.out 4 rfl (by simp)⟩ ⟨HGl0.out.pass (l := []) HS.out⟩ ⟨Sep.start _⟩ HA423).mono ?_
              rintro e_ w463 ⟨rfl, hS⟩
              replace HS : Aside0 (Sep (fps []) w [b2 g32 a28 a29 a30 a31, b3 g35 0 0 0 0 0 0 0 0, b3 g192 t189 (wrap64 (a29 - 8)) (wrap64 ((wrap64 (a29 - 8)) + 1)) t358 t385 t369 0 0, b4 g439 2 t410, b4 g457 2 (wrap64 ((wrap64 (a29 - 8)) + 1))] w463) := ⟨HS.out.call hS⟩
              clear hS
              refine ⟨_, rfl, ?_⟩
              refine hK.out _ _ (⟨blk_cellv (HS.out.at2) 4 rfl, blk_cellv (HS.out.at0) 3 rfl, blk_cellv (HS.out.at2) 2 rfl⟩) (fun hHeld => ?_)
              clear hK K
              refine norm_ (a' := ?_) ?_ ?_
              rotate_left
              · show Act.put _ (some 63) _ = _
                simp only [Act.put, List.setIfInBounds_toArray, List.set_cons_zero, List.set_cons_succ, i64_w, i32_w]
                rfl
              refine one_ (i := 11) (N := some 64) #[true, true, true, true, true, true, true, true, true, true, true, true, false, false, false] rfl rfl (by kernel_rfl) (by decide) (fun K hK => ?_)
              refine slice_step (n := 2) (by rfl) (N := 64) rfl (cs := #[.int .i64 t416, .int .i64 t422]) (t := 3) ?hr ?_
              case hr => first | (go_simp; done) | (go_simp; rfl)
              intro g464 hg w465 hbox hb
              replace HS : Aside0 (Sep (fps []) w [b2 g32 a28 a29 a30 a31, b3 g35 0 0 0 0 0 0 0 0, b3 g192 t189 (wrap64 (a29 - 8)) (wrap64 ((wrap64 (a29 - 8)) + 1)) t358 t385 t369 0 0, b4 g439 2 t410, b4 g457 2 (wrap64 ((wrap64 (a29 - 8)) + 1)), b4 g464 t416 t422] w465) := ⟨HS.out.box hg hbox hb⟩
              clear hg hbox hb
              refine hK.out _ _ (⟨blk_cellv (HS.out.at2) 4 rfl, blk_cellv (HS.out.at0) 3 rfl, blk_cellv (HS.out.at2) 2 rfl⟩) (fun hHeld => ?_)
              clear hK K
              refine norm_ (a' := ?_) ?_ ?_
              rotate_left
              · show Act.put _ (some 64) _ = _
                simp only [Act.put, List.setIfInBounds_toArray, List.set_cons_zero, List.set_cons_succ, i64_w, i32_w]
                rfl
              refine one_ (i := 12) (N := some 65) #[true, true, true, true, true, true, true, true, true, true, true, true, true, false, false] rfl rfl (by kernel_rfl) (by decide) (fun K hK => ?_)
              refine goes_ Tryd.func122 (by kernel_rfl) rfl #[.slice (some ⟨g464, 0, none⟩) 2 2] (by rfl) rfl rfl (by (try simp only [List.map_toArray, List.map_cons, List.map_nil]); first | done | rfl) ?_
              refine (ratio_Add.calls _ [t416, t422] (some ⟨g464, 0, none⟩) 2 t428 _ ⟨Rd.lit (l := []) (xs := [t416, t422]) HS.out 5 rfl (by simp)⟩ ⟨HGl0.out.pass (l := []) HS.out⟩ ⟨Sep.start _⟩ HA429).mono ?_
              rintro e_ w468 ⟨rfl, hS⟩
              replace HS : Aside0 (Sep (fps []) w [b2 g32 a28 a29 a30 a31, b3 g35 0 0 0 0 0 0 0 0, b3 g192 t189 (wrap64 (a29 - 8)) (wrap64 ((wrap64 (a29 - 8)) + 1)) t358 t385 t369 0 0, b4 g439 2 t410, b4 g457 2 (wrap64 ((wrap64 (a29 - 8)) + 1)), b4 g464 t416 t422] w468) := ⟨HS.out.call hS⟩
              clear hS
              refine ⟨_, rfl, ?_⟩
              refine hK.out _ _ (⟨blk_cellv (HS.out.at2) 4 rfl, blk_cellv (HS.out.at0) 3 rfl, blk_cellv (HS.out.at2) 2 rfl⟩) (fun hHeld => ?_)
              clear hK K
              refine norm_ (a' := ?_) ?_ ?_
              rotate_left
              · show Act.put _ (some 65) _ = _
                simp only [Act.put, List.setIfInBounds_toArray, List.set_cons_zero, List.set_cons_succ, i64_w, i32_w]
                rfl
              refine pure_ (i := 13) (N := some 66) (v := ?_) (a' := ?_) #[true, true, true, true, true, true, true, true, true, true, true, true, true, true, false] rfl rfl (by kernel_rfl) (fun _ _ _ h => h) (Or.inl ⟨by rfl, ?_⟩) ?_ ?_
              rotate_left
              · intro w'
                go_simp
                with_reducible rfl
              rotate_left
              · simp only [Act.put, List.setIfInBounds_toArray, List.set_cons_zero, List.set_cons_succ, i64_w, i32_w]
                rfl
              refine one_ (i := 14) (N := none) #[true, true, true, true, true, true, true, true, true, true, true, true, true, true, true] rfl rfl (by kernel_rfl) (by decide) (fun K hK => ?_)
              have hc470 := blk_cellv (v := .int .i64 0) (HS.out.at2) 6 rfl
              have hz471 := blk_fz (HS.out.at2) 6
              refine store_step (w1 := (World.setCell w468 ⟨g192, 6, none⟩ (.int .i64 t428))) (by rfl) rfl ?hr ?_
              case hr => first | (go_simp; done) | (go_simp; rfl)
              clear hc470 hz471
              intro w469 hst
              have hq0 : Sep (fps []) w [b2 g32 a28 a29 a30 a31, b3 g35 0 0 0 0 0 0 0 0, b3 g192 t189 (wrap64 (a29 - 8)) (wrap64 ((wrap64 (a29 - 8)) + 1)) t358 t385 t369 t428 0, b4 g439 2 t410, b4 g457 2 (wrap64 ((wrap64 (a29 - 8)) + 1)), b4 g464 t416 t422] (World.setCell w468 ⟨g192, 6, none⟩ (.int .i64 t428)) := (HS.out).set1 (l1 := [b2 g32 a28 a29 a30 a31, b3 g35 0 0 0 0 0 0 0 0]) (l2 := [b4 g439 2 t410, b4 g457 2 (wrap64 ((wrap64 (a29 - 8)) + 1)), b4 g464 t416 t422]) 6 (.int .i64 t428)
              have HS_ : Aside0 (Sep (fps []) w [b2 g32 a28 a29 a30 a31, b3 g35 0 0 0 0 0 0 0 0, b3 g192 t189 (wrap64 (a29 - 8)) (wrap64 ((wrap64 (a29 - 8)) + 1)) t358 t385 t369 t428 0, b4 g439 2 t410, b4 g457 2 (wrap64 ((wrap64 (a29 - 8)) + 1)), b4 g464 t416 t422] w469) := ⟨by rw [hst]; exact hq0⟩
              clear hq0
              clear HS hst
              have HS := HS_
              clear HS_
              refine hK.out _ _ (⟨blk_cellv (HS.out.at2) 4 rfl, blk_cellv (HS.out.at0) 3 rfl, blk_cellv (HS.out.at2) 2 rfl⟩) (fun hHeld => ?_)
              clear hK K
              refine done_ (by kernel_rfl) ?_
              go_wp2_with fail
              go_meet
              case rel => exact ⟨g439, g457, g464, ⟨((((((HS.out).front 5 (by simp)).front 5 (by simp)).front 5 (by simp)).front 5 (by simp)).front 5 (by simp)).front 5 (by simp)⟩⟩
          · refine slice_step (n := 2) (by rfl) (N := 62) rfl (cs := #[.int .i64 2, .int .i64 (wrap64 ((wrap64 (a29 - 8)) + 1))]) (t := 3) ?hr ?_
            case hr => first | (go_simp; done) | (go_simp; rfl)
            intro g472 hg w473 hbox hb
            replace HS : Aside0 (Sep (fps []) w [b2 g32 a28 a29 a30 a31, b3 g35 0 0 0 0 0 0 0 0, b3 g192 t189 (wrap64 (a29 - 8)) (wrap64 ((wrap64 (a29 - 8)) + 1)) t358 t385 t369 0 0, b4 g472 2 (wrap64 ((wrap64 (a29 - 8)) + 1))] w473) := ⟨HS.out.box hg hbox hb⟩
            clear hg hbox hb
            refine hK.out _ _ (⟨blk_cellv (HS.out.at2) 4 rfl, blk_cellv (HS.out.at0) 3 rfl, blk_cellv (HS.out.at2) 2 rfl⟩) (fun hHeld => ?_)
            clear hK K
            refine norm_ (a' := ?_) ?_ ?_
            rotate_left
            · show Act.put _ (some 62) _ = _
              simp only [Act.put, List.setIfInBounds_toArray, List.set_cons_zero, List.set_cons_succ, i64_w, i32_w]
              rfl
            refine one_ (i := 5) (N := some 58) #[true, true, true, true, true, true, false, true, true, true, false, false, false, false, false] rfl rfl (by kernel_rfl) (by decide) (fun K hK => ?_)
            refine slice_step (n := 2) (by rfl) (N := 58) rfl (cs := #[.int .i64 2, .int .i64 t410]) (t := 3) ?hr ?_
            case hr => first | (go_simp; done) | (go_simp; rfl)
            intro g475 hg w476 hbox hb
            replace HS : Aside0 (Sep (fps []) w [b2 g32 a28 a29 a30 a31, b3 g35 0 0 0 0 0 0 0 0, b3 g192 t189 (wrap64 (a29 - 8)) (wrap64 ((wrap64 (a29 - 8)) + 1)) t358 t385 t369 0 0, b4 g472 2 (wrap64 ((wrap64 (a29 - 8)) + 1)), b4 g475 2 t410] w476) := ⟨HS.out.box hg hbox hb⟩
            clear hg hbox hb
            refine hK.out _ _ (⟨blk_cellv (HS.out.at2) 4 rfl, blk_cellv (HS.out.at0) 3 rfl, blk_cellv (HS.out.at2) 2 rfl⟩) (fun hHeld => ?_)
            clear hK K
            refine norm_ (a' := ?_) ?_ ?_
            rotate_left
            · show Act.put _ (some 58) _ = _
              simp only [Act.put, List.setIfInBounds_toArray, List.set_cons_zero, List.set_cons_succ, i64_w, i32_w]
              rfl
            refine one_ (i := 6) (N := some 59) #[true, true, true, true, true, true, true, true, true, true, false, false, false, false, false] rfl rfl (by kernel_rfl) (by decide) (fun K hK => ?_)
            refine goes_ Tryd.func123 (by kernel_rfl) rfl #[.slice (some ⟨g475, 0, none⟩) 2 2] (by rfl) rfl rfl (by (try simp only [List.map_toArray, List.map_cons, List.map_nil]); first | done | rfl) ?_
            refine (ratio_Mul.calls _ [2, t410] (some ⟨g475, 0, none⟩) 2 t416 _ ⟨Rd.lit (l := []) (xs := [2, t410]) HS.out 4 rfl (by simp)⟩ ⟨HGl0.out.pass (l := []) HS.out⟩ ⟨Sep.start _⟩ HA417).mono ?_
            rintro e_ w479 ⟨rfl, hS⟩
            replace HS : Aside0 (Sep (fps []) w [b2 g32 a28 a29 a30 a31, b3 g35 0 0 0 0 0 0 0 0, b3 g192 t189 (wrap64 (a29 - 8)) (wrap64 ((wrap64 (a29 - 8)) + 1)) t358 t385 t369 0 0, b4 g472 2 (wrap64 ((wrap64 (a29 - 8)) + 1)), b4 g475 2 t410] w479) := ⟨HS.out.call hS⟩
            clear hS
            refine ⟨_, rfl, ?_⟩
            refine hK.out _ _ (⟨blk_cellv (HS.out.at2) 4 rfl, blk_cellv (HS.out.at0) 3 rfl, blk_cellv (HS.out.at2) 2 rfl⟩) (fun hHeld => ?_)
            clear hK K
            refine norm_ (a' := ?_) ?_ ?_
            rotate_left
            · show Act.put _ (some 59) _ = _
              simp only [Act.put, List.setIfInBounds_toArray, List.set_cons_zero, List.set_cons_succ, i64_w, i32_w]
              rfl
            refine one_ (i := 10) (N := some 63) #[true, true, true, true, true, true, true, true, true, true, true, false, false, false, false] rfl rfl (by kernel_rfl) (by decide) (fun K hK => ?_)
            refine goes_ Tryd.func123 (by kernel_rfl) rfl #[.slice (some ⟨g472, 0, none⟩) 2 2] (by rfl) rfl rfl (by (try simp only [List.map_toArray, List.map_cons, List.map_nil]); first | done | rfl) ?_
            refine (ratio_Mul.calls _ [2, wrap64 ((wrap64 (a29 - 8)) + 1)] (some ⟨g472, 0, none⟩) 2 t422 _ ⟨Rd.lit (l := []) (xs := [2, wrap64 ((wrap64 (a29 - 8)) + 1)]) HS.out 3 rfl (by simp)⟩ ⟨HGl0.out.pass (l := []) HS.out⟩ ⟨Sep.start _⟩ HA423).mono ?_
            rintro e_ w481 ⟨rfl, hS⟩
            replace HS : Aside0 (Sep (fps []) w [b2 g32 a28 a29 a30 a31, b3 g35 0 0 0 0 0 0 0 0, b3 g192 t189 (wrap64 (a29 - 8)) (wrap64 ((wrap64 (a29 - 8)) + 1)) t358 t385 t369 0 0, b4 g472 2 (wrap64 ((wrap64 (a29 - 8)) + 1)), b4 g475 2 t410] w481) := ⟨HS.out.call hS⟩
            clear hS
            refine ⟨_, rfl, ?_⟩
            refine hK.out _ _ (⟨blk_cellv (HS.out.at2) 4 rfl, blk_cellv (HS.out.at0) 3 rfl, blk_cellv (HS.out.at2) 2 rfl⟩) (fun hHeld => ?_)
            clear hK K
            refine norm_ (a' := ?_) ?_ ?_
            rotate_left
            · show Act.put _ (some 63) _ = _
              simp only [Act.put, List.setIfInBounds_toArray, List.set_cons_zero, List.set_cons_succ, i64_w, i32_w]
              rfl
            refine one_ (i := 11) (N := some 64) #[true, true, true, true, true, true, true, true, true, true, true, true, false, false, false] rfl rfl (by kernel_rfl) (by decide) (fun K hK => ?_)
            refine slice_step (n := 2) (by rfl) (N := 64) rfl (cs := #[.int .i64 t416, .int .i64 t422]) (t := 3) ?hr ?_
            case hr => first | (go_simp; done) | (go_simp; rfl)
            intro g482 hg w483 hbox hb
            replace HS : Aside0 (Sep (fps []) w [b2 g32 a28 a29 a30 a31, b3 g35 0 0 0 0 0 0 0 0, b3 g192 t189 (wrap64 (a29 - 8)) (wrap64 ((wrap64 (a29 - 8)) + 1)) t358 t385 t369 0 0, b4 g472 2 (wrap64 ((wrap64 (a29 - 8)) + 1)), b4 g475 2 t410, b4 g482 t416 t422] w483) := ⟨HS.out.box hg hbox hb⟩
            clear hg hbox hb
            refine hK.out _ _ (⟨blk_cellv (HS.out.at2) 4 rfl, blk_cellv (HS.out.at0) 3 rfl, blk_cellv (HS.out.at2) 2 rfl⟩) (fun hHeld => ?_)
            clear hK K
            refine norm_ (a' := ?_) ?_ ?_
            rotate_left
            · show Act.put _ (some 64) _ = _
              simp only [Act.put, List.setIfInBounds_toArray, List.set_cons_zero, List.set_cons_succ, i64_w, i32_w]
              rfl
            refine one_ (i := 12) (N := some 65) #[true, true, true, true, true, true, true, true, true, true, true, true, true, false, false] rfl rfl (by kernel_rfl) (by decide) (fun K hK => ?_)
            refine goes_ Tryd.func122 (by kernel_rfl) rfl #[.slice (some ⟨g482, 0, none⟩) 2 2] (by rfl) rfl rfl (by (try simp only [List.map_toArray, List.map_cons, List.map_nil]); first | done | rfl) ?_
            refine (ratio_Add.calls _ [t416, t422] (some ⟨g482, 0, none⟩) 2 t428 _ ⟨Rd.lit (l := []) (xs := [t416, t422]) HS.out 5 rfl (by simp)⟩ ⟨HGl0.out.pass (l := []) HS.out⟩ ⟨Sep.start _⟩ HA429).mono ?_
            rintro e_ w486 ⟨rfl, hS⟩
            replace HS : Aside0 (Sep (fps []) w [b2 g32 a28 a29 a30 a31, b3 g35 0 0 0 0 0 0 0 0, b3 g192 t189 (wrap64 (a29 - 8)) (wrap64 ((wrap64 (a29 - 8)) + 1)) t358 t385 t369 0 0, b4 g472 2 (wrap64 ((wrap64 (a29 - 8)) + 1)), b4 g475 2 t410, b4 g482 t416 t422] w486) := ⟨HS.out.call hS⟩
            clear hS
            refine ⟨_, rfl, ?_⟩
            refine hK.out _ _ (⟨blk_cellv (HS.out.at2) 4 rfl, blk_cellv (HS.out.at0) 3 rfl, blk_cellv (HS.out.at2) 2 rfl⟩) (fun hHeld => ?_)
            clear hK K
            refine norm_ (a' := ?_) ?_ ?_
            rotate_left
            · show Act.put _ (some 65) _ = _
              simp only [Act.put, List.setIfInBounds_toArray, List.set_cons_zero, List.set_cons_succ, i64_w, i32_w]
              rfl
            refine pure_ (i := 13) (N := some 66) (v := ?_) (a' := ?_) #[true, true, true, true, true, true, true, true, true, true, true, true, true, true, false] rfl rfl (by kernel_rfl) (fun _ _ _ h => h) (Or.inl ⟨by rfl, ?_⟩) ?_ ?_
            rotate_left
            · intro w'
              go_simp
              with_reducible rfl
            rotate_left
            · simp only [Act.put, List.setIfInBounds_toArray, List.set_cons_zero, List.set_cons_succ, i64_w, i32_w]
              rfl
            refine one_ (i := 14) (N := none) #[true, true, true, true, true, true, true, true, true, true, true, true, true, true, true] rfl rfl (by kernel_rfl) (by decide) (fun K hK => ?_)
            have hc488 := blk_cellv (v := .int .i64 0) (HS.out.at2) 6 rfl
            have hz489 := blk_fz (HS.out.at2) 6
            refine store_step (w1 := (World.setCell w486 ⟨g192, 6, none⟩ (.int .i64 t428))) (by rfl) rfl ?hr ?_
            case hr => first | (go_simp; done) | (go_simp; rfl)
            clear hc488 hz489
            intro w487 hst
            have hq0 : Sep (fps []) w [b2 g32 a28 a29 a30 a31, b3 g35 0 0 0 0 0 0 0 0, b3 g192 t189 (wrap64 (a29 - 8)) (wrap64 ((wrap64 (a29 - 8)) + 1)) t358 t385 t369 t428 0, b4 g472 2 (wrap64 ((wrap64 (a29 - 8)) + 1)), b4 g475 2 t410, b4 g482 t416 t422] (World.setCell w486 ⟨g192, 6, none⟩ (.int .i64 t428)) := (HS.out).set1 (l1 := [b2 g32 a28 a29 a30 a31, b3 g35 0 0 0 0 0 0 0 0]) (l2 := [b4 g472 2 (wrap64 ((wrap64 (a29 - 8)) + 1)), b4 g475 2 t410, b4 g482 t416 t422]) 6 (.int .i64 t428)
            have HS_ : Aside0 (Sep (fps []) w [b2 g32 a28 a29 a30 a31, b3 g35 0 0 0 0 0 0 0 0, b3 g192 t189 (wrap64 (a29 - 8)) (wrap64 ((wrap64 (a29 - 8)) + 1)) t358 t385 t369 t428 0, b4 g472 2 (wrap64 ((wrap64 (a29 - 8)) + 1)), b4 g475 2 t410, b4 g482 t416 t422] w487) := ⟨by rw [hst]; exact hq0⟩
            clear hq0
            clear HS hst
            have HS := HS_
            clear HS_
            refine hK.out _ _ (⟨blk_cellv (HS.out.at2) 4 rfl, blk_cellv (HS.out.at0) 3 rfl, blk_cellv (HS.out.at2) 2 rfl⟩) (fun hHeld => ?_)
            clear hK K
            refine done_ (by kernel_rfl) ?_
            go_wp2_with fail
            go_meet
            case rel => exact ⟨g475, g472, g482, ⟨((((((HS.out).front 5 (by simp)).front 4 (by simp)).front 5 (by simp)).front 5 (by simp)).front 5 (by simp)).front 5 (by simp)⟩⟩
        · refine slice_step (n := 2) (by rfl) (N := 62) rfl (cs := #[.int .i64 2, .int .i64 (wrap64 ((wrap64 (a29 - 8)) + 1))]) (t := 3) ?hr ?_
          case hr => first | (go_simp; done) | (go_simp; rfl)
          intro g490 hg w491 hbox hb
          replace HS : Aside0 (Sep (fps []) w [b2 g32 a28 a29 a30 a31, b3 g35 0 0 0 0 0 0 0 0, b3 g192 t189 (wrap64 (a29 - 8)) (wrap64 ((wrap64 (a29 - 8)) + 1)) t358 t385 t369 0 0, b4 g490 2 (wrap64 ((wrap64 (a29 - 8)) + 1))] w491) := ⟨HS.out.box hg hbox hb⟩
          clear hg hbox hb
          refine hK.out _ _ (⟨blk_cellv (HS.out.at2) 4 rfl, blk_cellv (HS.out.at0) 3 rfl, blk_cellv (HS.out.at2) 2 rfl⟩) (fun hHeld => ?_)
          clear hK K
          refine norm_ (a' := ?_) ?_ ?_
          rotate_left
          · show Act.put _ (some 62) _ = _
            simp only [Act.put, List.setIfInBounds_toArray, List.set_cons_zero, List.set_cons_succ, i64_w, i32_w]
            rfl
          refine one_ (i := 4) (N := some 57) #[true, true, true, true, true, false, false, true, true, true, false, false, false, false, false] rfl rfl (by kernel_rfl) (by decide) (fun K hK => ?_)
          refine goes_ Tryd.func124 (by kernel_rfl) rfl #[.int .i64 t385, .int .i64 a31] (by rfl) rfl rfl (by (try simp only [List.map_toArray, List.map_cons, List.map_nil]); first | done | rfl) ?_
          refine (ratio_Up.calls t385 a31 t410 _ ⟨HGl0.out.pass (l := []) HS.out⟩ ⟨Sep.start _⟩ HA411).mono ?_
          rintro e_ w494 ⟨rfl, hS⟩
          replace HS : Aside0 (Sep (fps []) w [b2 g32 a28 a29 a30 a31, b3 g35 0 0 0 0 0 0 0 0, b3 g192 t189 (wrap64 (a29 - 8)) (wrap64 ((wrap64 (a29 - 8)) + 1)) t358 t385 t369 0 0, b4 g490 2 (wrap64 ((wrap64 (a29 - 8)) + 1))] w494) := ⟨HS.out.call hS⟩
          clear hS
          refine ⟨_, rfl, ?_⟩
          refine hK.out _ _ (⟨blk_cellv (HS.out.at2) 4 rfl, blk_cellv (HS.out.at0) 3 rfl, blk_cellv (HS.out.at2) 2 rfl⟩) (fun hHeld => ?_)
          clear hK K
          refine norm_ (a' := ?_) ?_ ?_
          rotate_left
          · show Act.put _ (some 57) _ = _
            simp only [Act.put, List.setIfInBounds_toArray, List.set_cons_zero, List.set_cons_succ, i64_w, i32_w]
            rfl
          refine one_ (i := 5) (N := some 58) #[true, true, true, true, true, true, false, true, true, true, false, false, false, false, false] rfl rfl (by kernel_rfl) (by decide) (fun K hK => ?_)
          refine slice_step (n := 2) (by rfl) (N := 58) rfl (cs := #[.int .i64 2, .int .i64 t410]) (t := 3) ?hr ?_
          case hr => first | (go_simp; done) | (go_simp; rfl)
          intro g495 hg w496 hbox hb
          replace HS : Aside0 (Sep (fps []) w [b2 g32 a28 a29 a30 a31, b3 g35 0 0 0 0 0 0 0 0, b3 g192 t189 (wrap64 (a29 - 8)) (wrap64 ((wrap64 (a29 - 8)) + 1)) t358 t385 t369 0 0, b4 g490 2 (wrap64 ((wrap64 (a29 - 8)) + 1)), b4 g495 2 t410] w496) := ⟨HS.out.box hg hbox hb⟩
          clear hg hbox hb
          refine hK.out _ _ (⟨blk_cellv (HS.out.at2) 4 rfl, blk_cellv (HS.out.at0) 3 rfl, blk_cellv (HS.out.at2) 2 rfl⟩) (fun hHeld => ?_)
          clear hK K
          refine norm_ (a' := ?_) ?_ ?_
          rotate_left
          · show Act.put _ (some 58) _ = _
            simp only [Act.put, List.setIfInBounds_toArray, List.set_cons_zero, List.set_cons_succ, i64_w, i32_w]
            rfl
          refine one_ (i := 6) (N := some 59) #[true, true, true, true, true, true, true, true, true, true, false, false, false, false, false] rfl rfl (by kernel_rfl) (by decide) (fun K hK => ?_)
          refine goes_ Tryd.func123 (by kernel_rfl) rfl #[.slice (some ⟨g495, 0, none⟩) 2 2] (by rfl) rfl rfl (by (try simp only [List.map_toArray, List.map_cons, List.map_nil]); first | done | rfl) ?_
          refine (ratio_Mul.calls _ [2, t410] (some ⟨g495, 0, none⟩) 2 t416 _ ⟨Rd.lit (l := []) (xs := [2, t410]) HS.out 4 rfl (by simp)⟩ ⟨HGl0.out.pass (l := []) HS.out⟩ ⟨Sep.start _⟩ HA417).mono ?_
          rintro e_ w499 ⟨rfl, hS⟩
          replace HS : Aside0 (Sep (fps []) w [b2 g32 a28 a29 a30 a31, b3 g35 0 0 0 0 0 0 0 0, b3 g192 t189 (wrap64 (a29 - 8)) (wrap64 ((wrap64 (a29 - 8)) + 1)) t358 t385 t369 0 0, b4 g490 2 (wrap64 ((wrap64 (a29 - 8)) + 1)), b4 g495 2 t410] w499) := ⟨HS.out.call hS⟩
          clear hS
          refine ⟨_, rfl, ?_⟩
          refine hK.out _ _ (⟨blk_cellv (HS.out.at2) 4 rfl, blk_cellv (HS.out.at0) 3 rfl, blk_cellv (HS.out.at2) 2 rfl⟩) (fun hHeld => ?_)
          clear hK K
          refine norm_ (a' := ?_) ?_ ?_
          rotate_left
          · show Act.put _ (some 59) _ = _
            simp only [Act.put, List.setIfInBounds_toArray, List.set_cons_zero, List.set_cons_succ, i64_w, i32_w]
            rfl
          refine one_ (i := 10) (N := some 63) #[true, true, true, true, true, true, true, true, true, true, true, false, false, false, false] rfl rfl (by kernel_rfl) (by decide) (fun K hK => ?_)
          refine goes_ Tryd.func123 (by kernel_rfl) rfl #[.slice (some ⟨g490, 0, none⟩) 2 2] (by rfl) rfl rfl (by (try simp only [List.map_toArray, List.map_cons, List.map_nil]); first | done | rfl) ?_
          refine (ratio_Mul.calls _ [2, wrap64 ((wrap64 (a29 - 8)) + 1)] (some ⟨g490, 0, none⟩) 2 t422 _ ⟨Rd.lit (l := []) (xs := [2, wrap64 ((wrap64 (a29 - 8)) + 1)]) HS.out 3 rfl (by simp)⟩ ⟨HGl0.out.pass (l := []) HS.out⟩ ⟨Sep.start _⟩ HA423).mono ?_
          rintro e_ w501 ⟨rfl, hS⟩
          replace HS : Aside0 (Sep (fps []) w [b2 g32 a28 a29 a30 a31, b3 g35 0 0 0 0 0 0 0 0, b3 g192 t189 (wrap64 (a29 - 8)) (wrap64 ((wrap64 (a29 - 8)) + 1)) t358 t385 t369 0 0, b4 g490 2 (wrap64 ((wrap64 (a29 - 8)) + 1)), b4 g495 2 t410] w501) := ⟨HS.out.call hS⟩
          clear hS
          refine ⟨_, rfl, ?_⟩
          refine hK.out _ _ (⟨blk_cellv (HS.out.at2) 4 rfl, blk_cellv (HS.out.at0) 3 rfl, blk_cellv (HS.out.at2) 2 rfl⟩) (fun hHeld => ?_)
          clear hK K
          refine norm_ (a' := ?_) ?_ ?_
          rotate_left
          · show Act.put _ (some 63) _ = _
            simp only [Act.put, List.setIfInBounds_toArray, List.set_cons_zero, List.set_cons_succ, i64_w, i32_w]
            rfl
          refine one_ (i := 11) (N := some 64) #[true, true, true, true, true, true, true, true, true, true, true, true, false, false, false] rfl rfl (by kernel_rfl) (by decide) (fun K hK => ?_)
          refine slice_step (n := 2) (by rfl) (N := 64) rfl (cs := #[.int .i64 t416, .int .i64 t422]) (t := 3) ?hr ?_
          case hr => first | (go_simp; done) | (go_simp; rfl)
          intro g502 hg w503 hbox hb
          replace HS : Aside0 (Sep (fps []) w [b2 g32 a28 a29 a30 a31, b3 g35 0 0 0 0 0 0 0 0, b3 g192 t189 (wrap64 (a29 - 8)) (wrap64 ((wrap64 (a29 - 8)) + 1)) t358 t385 t369 0 0, b4 g490 2 (wrap64 ((wrap64 (a29 - 8)) + 1)), b4 g495 2 t410, b4 g502 t416 t422] w503) := ⟨HS.out.box hg hbox hb⟩
          clear hg hbox hb
          refine hK.out _ _ (⟨blk_cellv (HS.out.at2) 4 rfl, blk_cellv (HS.out.at0) 3 rfl, blk_cellv (HS.out.at2) 2 rfl⟩) (fun hHeld => ?_)
          clear hK K
          refine norm_ (a' := ?_) ?_ ?_
          rotate_left
          · show Act.put _ (some 64) _ = _
            simp only [Act.put, List.setIfInBounds_toArray, List.set_cons_zero, List.set_cons_succ, i64_w, i32_w]
            rfl
          refine one_ (i := 12) (N := some 65) #[true, true, true, true, true, true, true, true, true, true, true, true, true, false, false] rfl rfl (by kernel_rfl) (by decide) (fun K hK => ?_)
          refine goes_ Tryd.func122 (by kernel_rfl) rfl #[.slice (some ⟨g502, 0, none⟩) 2 2] (by rfl) rfl rfl (by (try simp only [List.map_toArray, List.map_cons, List.map_nil]); first | done | rfl) ?_
          refine (ratio_Add.calls _ [t416, t422] (some ⟨g502, 0, none⟩) 2 t428 _ ⟨Rd.lit (l := []) (xs := [t416, t422]) HS.out 5 rfl (by simp)⟩ ⟨HGl0.out.pass (l := []) HS.out⟩ ⟨Sep.start _⟩ HA429).mono ?_
          rintro e_ w506 ⟨rfl, hS⟩
          replace HS : Aside0 (Sep (fps []) w [b2 g32 a28 a29 a30 a31, b3 g35 0 0 0 0 0 0 0 0, b3 g192 t189 (wrap64 (a29 - 8)) (wrap64 ((wrap64 (a29 - 8)) + 1)) t358 t385 t369 0 0, b4 g490 2 (wrap64 ((wrap64 (a29 - 8)) + 1)), b4 g495 2 t410, b4 g502 t416 t422] w506) := ⟨HS.out.call hS⟩
          clear hS
          refine ⟨_, rfl, ?_⟩
          refine hK.out _ _ (⟨blk_cellv (HS.out.at2) 4 rfl, blk_cellv (HS.out.at0) 3 rfl, blk_cellv (HS.out.at2) 2 rfl⟩) (fun hHeld => ?_)
          clear hK K
          refine norm_ (a' := ?_) ?_ ?_
          rotate_left
          · show Act.put _ (some 65) _ = _
            simp only [Act.put, List.setIfInBounds_toArray, List.set_cons_zero, List.set_cons_succ, i64_w, i32_w]
            rfl
          refine pure_ (i := 13) (N := some 66) (v := ?_) (a' := ?_) #[true, true, true, true, true, true, true, true, true, true, true, true, true, true, false] rfl rfl (by kernel_rfl) (fun _ _ _ h => h) (Or.inl ⟨by rfl, ?_⟩) ?_ ?_
          rotate_left
          · intro w'
            go_simp
            with_reducible rfl
          rotate_left
          · simp only [Act.put, List.setIfInBounds_toArray, List.set_cons_zero, List.set_cons_succ, i64_w, i32_w]
            rfl
          refine one_ (i := 14) (N := none) #[true, true, true, true, true, true, true, true, true, true, true, true, true, true, true] rfl rfl (by kernel_rfl) (by decide) (fun K hK => ?_)
          have hc508 := blk_cellv (v := .int .i64 0) (HS.out.at2) 6 rfl
          have hz509 := blk_fz (HS.out.at2) 6
          refine store_step (w1 := (World.setCell w506 ⟨g192, 6, none⟩ (.int .i64 t428))) (by rfl) rfl ?hr ?_
          case hr => first | (go_simp; done) | (go_simp; rfl)
          clear hc508 hz509
          intro w507 hst
          have hq0 : Sep (fps []) w [b2 g32 a28 a29 a30 a31, b3 g35 0 0 0 0 0 0 0 0, b3 g192 t189 (wrap64 (a29 - 8)) (wrap64 ((wrap64 (a29 - 8)) + 1)) t358 t385 t369 t428 0, b4 g490 2 (wrap64 ((wrap64 (a29 - 8)) + 1)), b4 g495 2 t410, b4 g502 t416 t422] (World.setCell w506 ⟨g192, 6, none⟩ (.int .i64 t428)) := (HS.out).set1 (l1 := [b2 g32 a28 a29 a30 a31, b3 g35 0 0 0 0 0 0 0 0]) (l2 := [b4 g490 2 (wrap64 ((wrap64 (a29 - 8)) + 1)), b4 g495 2 t410, b4 g502 t416 t422]) 6 (.int .i64 t428)
          have HS_ : Aside0 (Sep (fps []) w [b2 g32 a28 a29 a30 a31, b3 g35 0 0 0 0 0 0 0 0, b3 g192 t189 (wrap64 (a29 - 8)) (wrap64 ((wrap64 (a29 - 8)) + 1)) t358 t385 t369 t428 0, b4 g490 2 (wrap64 ((wrap64 (a29 - 8)) + 1)), b4 g495 2 t410, b4 g502 t416 t422] w507) := ⟨by rw [hst]; exact hq0⟩
          clear hq0
          clear HS hst
          have HS := HS_
          clear HS_
          refine hK.out _ _ (⟨blk_cellv (HS.out.at2) 4 rfl, blk_cellv (HS.out.at0) 3 rfl, blk_cellv (HS.out.at2) 2 rfl⟩) (fun hHeld => ?_)
          clear hK K
          refine done_ (by kernel_rfl) ?_
          go_wp2_with fail
          go_meet
          case rel => exact ⟨g495, g490, g502, ⟨((((((HS.out).front 5 (by simp)).front 4 (by simp)).front 5 (by simp)).front 5 (by simp)).front 5 (by simp)).front 5 (by simp)⟩⟩
      case rest =>
        clear HS
        obtain ⟨g413, g419, g425, HS⟩ := hcut
        obtain ⟨w434, rfl⟩ : ∃ x : World, x = wc := ⟨_, rfl⟩
        replace HS : Aside0 (Sep (fps []) w [b2 g32 a28 a29 a30 a31, b3 g35 0 0 0 0 0 0 0 0, b3 g192 t189 (wrap64 (a29 - 8)) (wrap64 ((wrap64 (a29 - 8)) + 1)) t358 t385 t369 t428 0] w434) := ⟨HS.out.sub (.cons_cons _ (.cons_cons _ (.cons_cons _ (.cons _ (.cons _ (.cons _ .slnil))))))⟩
        go_wp2_with fail
        refine start_ (n := 15) (S := (fun w' => w'.cell? ⟨g192, 4, none⟩ = some (.int .i64 t385) ∧ w'.cell? ⟨g192, 5, none⟩ = some (.int .i64 t369) ∧ w'.cell? ⟨g32, 3, none⟩ = some (.int .i64 a31))) (ds := []) #[false, false, false, false, false, false, false, false, false, false, false, false, false, false, false] (by kernel_rfl) rfl rfl (⟨blk_cellv ((HS.out.drew).at2) 4 rfl, blk_cellv ((HS.out.drew).at2) 5 rfl, blk_cellv ((HS.out.drew).at0) 3 rfl⟩) (fun hHeld => ?_)
        have HS_ := Aside0.mk HS.out.drew
        clear HS
        generalize World.drew _ = w511 at HS_ hHeld ⊢
        have HS := HS_
        clear HS_
        refine pure_ (i := 0) (N := some 67) (v := ?_) (a' := ?_) #[true, false, false, false, false, false, false, false, false, false, false, false, false, false, false] rfl rfl (by kernel_rfl) (fun _ _ _ h => h) (Or.inl ⟨by rfl, ?_⟩) ?_ ?_
        rotate_left
        · intro w'
          go_simp
          with_reducible rfl
        rotate_left
        · simp only [Act.put, List.setIfInBounds_toArray, List.set_cons_zero, List.set_cons_succ, i64_w, i32_w]
          rfl
        refine pure_ (i := 2) (N := some 69) (v := ?_) (a' := ?_) #[true, false, true, false, false, false, false, false, false, false, false, false, false, false, false] rfl rfl (by kernel_rfl) (fun _ _ _ h => h) (Or.inl ⟨by rfl, ?_⟩) ?_ ?_
        rotate_left
        · intro w'
          go_simp
          with_reducible rfl
        rotate_left
        · simp only [Act.put, List.setIfInBounds_toArray, List.set_cons_zero, List.set_cons_succ, i64_w, i32_w]
          rfl
        refine pure_ (i := 4) (N := some 71) (v := ?_) (a' := ?_) #[true, false, true, false, true, false, false, false, false, false, false, false, false, false, false] rfl rfl (by kernel_rfl) (fun _ _ _ h => h) (Or.inl ⟨by rfl, ?_⟩) ?_ ?_
        rotate_left
        · intro w'
          go_simp
          with_reducible rfl
        rotate_left
        · simp only [Act.put, List.setIfInBounds_toArray, List.set_cons_zero, List.set_cons_succ, i64_w, i32_w]
          rfl
        refine pure_ (i := 8) (N := some 75) (v := ?_) (a' := ?_) #[true, false, true, false, true, false, false, false, true, false, false, false, false, false, false] rfl rfl (by kernel_rfl) (fun _ _ _ h => h) (Or.inl ⟨by rfl, ?_⟩) ?_ ?_
        rotate_left
        · intro w'
          go_simp
          with_reducible rfl
        rotate_left
        · simp only [Act.put, List.setIfInBounds_toArray, List.set_cons_zero, List.set_cons_succ, i64_w, i32_w]
          rfl
        refine take_ (i := 1) (N := some 68) (v := ?_) (a' := ?_) #[true, true, true, false, true, false, false, false, true, false, false, false, false, false, false] rfl rfl (by kernel_rfl) (fun _ _ _ h => h) (Or.inl ⟨by rfl, ?_⟩) hHeld ?_ ?_
        rotate_left
        · rintro w' hS'
          obtain ⟨s0, s1, s2⟩ := hS'
          go_simp
          with_reducible rfl
        rotate_left
        · simp only [Act.put, List.setIfInBounds_toArray, List.set_cons_zero, List.set_cons_succ, i64_w, i32_w]
          rfl
        refine take_ (i := 3) (N := some 70) (v := ?_) (a' := ?_) #[true, true, true, true, true, false, false, false, true, false, false, false, false, false, false] rfl rfl (by kernel_rfl) (fun _ _ _ h => h) (Or.inl ⟨by rfl, ?_⟩) hHeld ?_ ?_
        rotate_left
        · rintro w' hS'
          obtain ⟨s0, s1, s2⟩ := hS'
          go_simp
          with_reducible rfl
        rotate_left
        · simp only [Act.put, List.setIfInBounds_toArray, List.set_cons_zero, List.set_cons_succ, i64_w, i32_w]
          rfl
        refine take_ (i := 5) (N := some 72) (v := ?_) (a' := ?_) #[true, true, true, true, true, true, false, false, true, false, false, false, false, false, false] rfl rfl (by kernel_rfl) (fun _ _ _ h => h) (Or.inl ⟨by rfl, ?_⟩) hHeld ?_ ?_
        rotate_left
        · rintro w' hS'
          obtain ⟨s0, s1, s2⟩ := hS'
          go_simp
          with_reducible rfl
        rotate_left
        · simp only [Act.put, List.setIfInBounds_toArray, List.set_cons_zero, List.set_cons_succ, i64_w, i32_w]
          rfl
        refine take_ (i := 9) (N := some 76) (v := ?_) (a' := ?_) #[true, true, true, true, true, true, false, false, true, true, false, false, false, false, false] rfl rfl (by kernel_rfl) (fun _ _ _ h => h) (Or.inl ⟨by rfl, ?_⟩) hHeld ?_ ?_
        rotate_left
        · rintro w' hS'
          obtain ⟨s0, s1, s2⟩ := hS'
          go_simp
          with_reducible rfl
        rotate_left
        · simp only [Act.put, List.setIfInBounds_toArray, List.set_cons_zero, List.set_cons_succ, i64_w, i32_w]
          rfl
        refine one_ (i := 6) (N := some 73) #[true, true, true, true, true, true, true, false, true, true, false, false, false, false, false] rfl rfl (by kernel_rfl) (by decide) (fun K hK => ?_)
        refine slice_step (n := 3) (by rfl) (N := 73) rfl (cs := #[.int .i64 t385, .int .i64 t385, .int .i64 t369]) (t := 3) ?hr ?_
        case hr => first | (go_simp; done) | (go_simp; rfl)
        intro g512 hg w513 hbox hb
        replace HS : Aside0 (Sep (fps []) w [b2 g32 a28 a29 a30 a31, b3 g35 0 0 0 0 0 0 0 0, b3 g192 t189 (wrap64 (a29 - 8)) (wrap64 ((wrap64 (a29 - 8)) + 1)) t358 t385 t369 t428 0, b5 g512 t385 t385 t369] w513) := ⟨HS.out.box hg hbox hb⟩
        clear hg hbox hb
        refine hK.out _ _ (⟨blk_cellv (HS.out.at2) 4 rfl, blk_cellv (HS.out.at2) 5 rfl, blk_cellv (HS.out.at0) 3 rfl⟩) (fun hHeld => ?_)
        clear hK K
        refine norm_ (a' := ?_) ?_ ?_
        rotate_left
        · show Act.put _ (some 73) _ = _
          simp only [Act.put, List.setIfInBounds_toArray, List.set_cons_zero, List.set_cons_succ, i64_w, i32_w]
          rfl
        refine one_ (i := 7) (N := some 74) #[true, true, true, true, true, true, true, true, true, true, false, false, false, false, false] rfl rfl (by kernel_rfl) (by decide) (fun K hK => ?_)
        obtain ⟨t515, HA516, H⟩ := bind_some H
        refine goes_ Tryd.func122 (by kernel_rfl) rfl #[.slice (some ⟨g512, 0, none⟩) 3 3] (by rfl) rfl rfl (by (try simp only [List.map_toArray, List.map_cons, List.map_nil]); first | done | rfl) ?_
        refine (ratio_Add.calls _ [t385, t385, t369] (some ⟨g512, 0, none⟩) 3 t515 _ ⟨Rd.lit (l := []) (xs := [t385, t385, t369]) HS.out 3 rfl (by simp)⟩ ⟨HGl0.out.pass (l := []) HS.out⟩ ⟨Sep.start _⟩ HA516).mono ?_
        rintro e_ w517 ⟨rfl, hS⟩
        replace HS : Aside0 (Sep (fps []) w [b2 g32 a28 a29 a30 a31, b3 g35 0 0 0 0 0 0 0 0, b3 g192 t189 (wrap64 (a29 - 8)) (wrap64 ((wrap64 (a29 - 8)) + 1)) t358 t385 t369 t428 0, b5 g512 t385 t385 t369] w517) := ⟨HS.out.call hS⟩
        clear hS
        refine ⟨_, rfl, ?_⟩
        refine hK.out _ _ (⟨blk_cellv (HS.out.at2) 4 rfl, blk_cellv (HS.out.at2) 5 rfl, blk_cellv (HS.out.at0) 3 rfl⟩) (fun hHeld => ?_)
        clear hK K
        refine norm_ (a' := ?_) ?_ ?_
        rotate_left
        · show Act.put _ (some 74) _ = _
          simp only [Act.put, List.setIfInBounds_toArray, List.set_cons_zero, List.set_cons_succ, i64_w, i32_w]
          rfl
        refine one_ (i := 10) (N := some 77) #[true, true, true, true, true, true, true, true, true, true, true, false, false, false, false] rfl rfl (by kernel_rfl) (by decide) (fun K hK => ?_)
        obtain ⟨t518, HA519, H⟩ := bind_some H
        refine goes_ Tryd.func124 (by kernel_rfl) rfl #[.int .i64 t515, .int .i64 a31] (by rfl) rfl rfl (by (try simp only [List.map_toArray, List.map_cons, List.map_nil]); first | done | rfl) ?_
        refine (ratio_Up.calls t515 a31 t518 _ ⟨HGl0.out.pass (l := []) HS.out⟩ ⟨Sep.start _⟩ HA519).mono ?_
        rintro e_ w520 ⟨rfl, hS⟩
        replace HS : Aside0 (Sep (fps []) w [b2 g32 a28 a29 a30 a31, b3 g35 0 0 0 0 0 0 0 0, b3 g192 t189 (wrap64 (a29 - 8)) (wrap64 ((wrap64 (a29 - 8)) + 1)) t358 t385 t369 t428 0, b5 g512 t385 t385 t369] w520) := ⟨HS.out.call hS⟩
        clear hS
        refine ⟨_, rfl, ?_⟩
        refine hK.out _ _ (⟨blk_cellv (HS.out.at2) 4 rfl, blk_cellv (HS.out.at2) 5 rfl, blk_cellv (HS.out.at0) 3 rfl⟩) (fun hHeld => ?_)
        clear hK K
        refine norm_ (a' := ?_) ?_ ?_
        rotate_left
        · show Act.put _ (some 77) _ = _
          simp only [Act.put, List.setIfInBounds_toArray, List.set_cons_zero, List.set_cons_succ, i64_w, i32_w]
          rfl
        refine one_ (i := 11) (N := some 78) #[true, true, true, true, true, true, true, true, true, true, true, true, false, false, false] rfl rfl (by kernel_rfl) (by decide) (fun K hK => ?_)
        refine slice_step (n := 2) (by rfl) (N := 78) rfl (cs := #[.int .i64 t518, .int .i64 2]) (t := 3) ?hr ?_
        case hr => first | (go_simp; done) | (go_simp; rfl)
        intro g521 hg w522 hbox hb
        replace HS : Aside0 (Sep (fps []) w [b2 g32 a28 a29 a30 a31, b3 g35 0 0 0 0 0 0 0 0, b3 g192 t189 (wrap64 (a29 - 8)) (wrap64 ((wrap64 (a29 - 8)) + 1)) t358 t385 t369 t428 0, b5 g512 t385 t385 t369, b4 g521 t518 2] w522) := ⟨HS.out.box hg hbox hb⟩
        clear hg hbox hb
        refine hK.out _ _ (⟨blk_cellv (HS.out.at2) 4 rfl, blk_cellv (HS.out.at2) 5 rfl, blk_cellv (HS.out.at0) 3 rfl⟩) (fun hHeld => ?_)
        clear hK K
        refine norm_ (a' := ?_) ?_ ?_
        rotate_left
        · show Act.put _ (some 78) _ = _
          simp only [Act.put, List.setIfInBounds_toArray, List.set_cons_zero, List.set_cons_succ, i64_w, i32_w]
          rfl
        refine one_ (i := 12) (N := some 79) #[true, true, true, true, true, true, true, true, true, true, true, true, true, false, false] rfl rfl (by kernel_rfl) (by decide) (fun K hK => ?_)
        obtain ⟨t524, HA525, H⟩ := bind_some H
        refine goes_ Tryd.func122 (by kernel_rfl) rfl #[.slice (some ⟨g521, 0, none⟩) 2 2] (by rfl) rfl rfl (by (try simp only [List.map_toArray, List.map_cons, List.map_nil]); first | done | rfl) ?_
        refine (ratio_Add.calls _ [t518, 2] (some ⟨g521, 0, none⟩) 2 t524 _ ⟨Rd.lit (l := []) (xs := [t518, 2]) HS.out 4 rfl (by simp)⟩ ⟨HGl0.out.pass (l := []) HS.out⟩ ⟨Sep.start _⟩ HA525).mono ?_
        rintro e_ w526 ⟨rfl, hS⟩
        replace HS : Aside0 (Sep (fps []) w [b2 g32 a28 a29 a30 a31, b3 g35 0 0 0 0 0 0 0 0, b3 g192 t189 (wrap64 (a29 - 8)) (wrap64 ((wrap64 (a29 - 8)) + 1)) t358 t385 t369 t428 0, b5 g512 t385 t385 t369, b4 g521 t518 2] w526) := ⟨HS.out.call hS⟩
        clear hS
        refine ⟨_, rfl, ?_⟩
        refine hK.out _ _ (⟨blk_cellv (HS.out.at2) 4 rfl, blk_cellv (HS.out.at2) 5 rfl, blk_cellv (HS.out.at0) 3 rfl⟩) (fun hHeld => ?_)
        clear hK K
        refine norm_ (a' := ?_) ?_ ?_
        rotate_left
        · show Act.put _ (some 79) _ = _
          simp only [Act.put, List.setIfInBounds_toArray, List.set_cons_zero, List.set_cons_succ, i64_w, i32_w]
          rfl
        refine pure_ (i := 13) (N := some 80) (v := ?_) (a' := ?_) #[true, true, true, true, true, true, true, true, true, true, true, true, true, true, false] rfl rfl (by kernel_rfl) (fun _ _ _ h => h) (Or.inl ⟨by rfl, ?_⟩) ?_ ?_
        rotate_left
        · intro w'
          go_simp
          with_reducible rfl
        rotate_left
        · simp only [Act.put, List.setIfInBounds_toArray, List.set_cons_zero, List.set_cons_succ, i64_w, i32_w]
          rfl
        refine one_ (i := 14) (N := none) #[true, true, true, true, true, true, true, true, true, true, true, true, true, true, true] rfl rfl (by kernel_rfl) (by decide) (fun K hK => ?_)
        have hc528 := blk_cellv (v := .int .i64 0) (HS.out.at2) 7 rfl
        have hz529 := blk_fz (HS.out.at2) 7
        refine store_step (w1 := (World.setCell w526 ⟨g192, 7, none⟩ (.int .i64 t524))) (by rfl) rfl ?hr ?_
        case hr => first | (go_simp; done) | (go_simp; rfl)
        clear hc528 hz529
        intro w527 hst
        have hq0 : Sep (fps []) w [b2 g32 a28 a29 a30 a31, b3 g35 0 0 0 0 0 0 0 0, b3 g192 t189 (wrap64 (a29 - 8)) (wrap64 ((wrap64 (a29 - 8)) + 1)) t358 t385 t369 t428 t524, b5 g512 t385 t385 t369, b4 g521 t518 2] (World.setCell w526 ⟨g192, 7, none⟩ (.int .i64 t524)) := (HS.out).set1 (l1 := [b2 g32 a28 a29 a30 a31, b3 g35 0 0 0 0 0 0 0 0]) (l2 := [b5 g512 t385 t385 t369, b4 g521 t518 2]) 7 (.int .i64 t524)
        have HS_ : Aside0 (Sep (fps []) w [b2 g32 a28 a29 a30 a31, b3 g35 0 0 0 0 0 0 0 0, b3 g192 t189 (wrap64 (a29 - 8)) (wrap64 ((wrap64 (a29 - 8)) + 1)) t358 t385 t369 t428 t524, b5 g512 t385 t385 t369, b4 g521 t518 2] w527) := ⟨by rw [hst]; exact hq0⟩
        clear hq0
        clear HS hst
        have HS := HS_
        clear HS_
        refine hK.out _ _ (⟨blk_cellv (HS.out.at2) 4 rfl, blk_cellv (HS.out.at2) 5 rfl, blk_cellv (HS.out.at0) 3 rfl⟩) (fun hHeld => ?_)
        clear hK K
        refine done_ (by kernel_rfl) ?_
        replace HS : Aside0 (Sep (fps []) w [b3 g35 0 0 0 0 0 0 0 0, b3 g192 t189 (wrap64 (a29 - 8)) (wrap64 ((wrap64 (a29 - 8)) + 1)) t358 t385 t369 t428 t524] w527) := ⟨HS.out.sub (.cons _ (.cons_cons _ (.cons_cons _ (.cons _ (.cons _ .slnil)))))⟩
        have hc530 : w527.cell? ⟨g192, 0, none⟩ = some (.int .i64 t189) := blk_cellv (HS.out.at1) 0 rfl
        have hc531 : w527.cell? ⟨g192, 1, none⟩ = some (.int .i64 (wrap64 (a29 - 8))) := blk_cellv (HS.out.at1) 1 rfl
        have hc532 : w527.cell? ⟨g192, 2, none⟩ = some (.int .i64 (wrap64 ((wrap64 (a29 - 8)) + 1))) := blk_cellv (HS.out.at1) 2 rfl
        have hc533 : w527.cell? ⟨g192, 3, none⟩ = some (.int .i64 t358) := blk_cellv (HS.out.at1) 3 rfl
        have hc534 : w527.cell? ⟨g192, 4, none⟩ = some (.int .i64 t385) := blk_cellv (HS.out.at1) 4 rfl
        have hc535 : w527.cell? ⟨g192, 5, none⟩ = some (.int .i64 t369) := blk_cellv (HS.out.at1) 5 rfl
        have hc536 : w527.cell? ⟨g192, 6, none⟩ = some (.int .i64 t428) := blk_cellv (HS.out.at1) 6 rfl
        have hc537 : w527.cell? ⟨g192, 7, none⟩ = some (.int .i64 t524) := blk_cellv (HS.out.at1) 7 rfl
        have hc538 : w527.cell? ⟨g35, 0, none⟩ = some (.int .i64 0) := blk_cellv (HS.out.at0) 0 rfl
        have hz539 : w527.frozen? ⟨g35, 0, none⟩ = false := blk_fz (HS.out.at0) 0
        have hc540 : w527.cell? ⟨g35, 1, none⟩ = some (.int .i64 0) := blk_cellv (HS.out.at0) 1 rfl
        have hz541 : w527.frozen? ⟨g35, 1, none⟩ = false := blk_fz (HS.out.at0) 1
        have hc542 : w527.cell? ⟨g35, 2, none⟩ = some (.int .i64 0) := blk_cellv (HS.out.at0) 2 rfl
        have hz543 : w527.frozen? ⟨g35, 2, none⟩ = false := blk_fz (HS.out.at0) 2
        have hc544 : w527.cell? ⟨g35, 3, none⟩ = some (.int .i64 0) := blk_cellv (HS.out.at0) 3 rfl
        have hz545 : w527.frozen? ⟨g35, 3, none⟩ = false := blk_fz (HS.out.at0) 3
        have hc546 : w527.cell? ⟨g35, 4, none⟩ = some (.int .i64 0) := blk_cellv (HS.out.at0) 4 rfl
        have hz547 : w527.frozen? ⟨g35, 4, none⟩ = false := blk_fz (HS.out.at0) 4
        have hc548 : w527.cell? ⟨g35, 5, none⟩ = some (.int .i64 0) := blk_cellv (HS.out.at0) 5 rfl
        have hz549 : w527.frozen? ⟨g35, 5, none⟩ = false := blk_fz (HS.out.at0) 5
        have hc550 : w527.cell? ⟨g35, 6, none⟩ = some (.int .i64 0) := blk_cellv (HS.out.at0) 6 rfl
        have hz551 : w527.frozen? ⟨g35, 6, none⟩ = false := blk_fz (HS.out.at0) 6
        have hc552 : w527.cell? ⟨g35, 7, none⟩ = some (.int .i64 0) := blk_cellv (HS.out.at0) 7 rfl
        have hz553 : w527.frozen? ⟨g35, 7, none⟩ = false := blk_fz (HS.out.at0) 7
        go_wp2_with (first | ((with_reducible refine gate_store (t := 97) (p := 2) rfl ?_); refine store_event (w1 := (World.setCell (World.setCell (World.setCell (World.setCell (World.setCell (World.setCell (World.setCell (World.setCell w527 ⟨g35, 0, none⟩ (.int .i64 t189)) ⟨g35, 1, none⟩ (.int .i64 (wrap64 (a29 - 8)))) ⟨g35, 2, none⟩ (.int .i64 (wrap64 ((wrap64 (a29 - 8)) + 1)))) ⟨g35, 3, none⟩ (.int .i64 t358)) ⟨g35, 4, none⟩ (.int .i64 t385)) ⟨g35, 5, none⟩ (.int .i64 t369)) ⟨g35, 6, none⟩ (.int .i64 t428)) ⟨g35, 7, none⟩ (.int .i64 t524))) rfl (t := 97) (p := 2) rfl rfl ?hr ?_; (case hr => first | (go_simp; done) | (go_simp; rfl)); intro w554 hst; clear hc530 hc531 hc532 hc533 hc534 hc535 hc536 hc537 hc538 hz539 hc540 hz541 hc542 hz543 hc544 hz545 hc546 hz547 hc548 hz549 hc550 hz551 hc552 hz553; replace HS : Aside0 (Sep (fps []) w [b3 g35 t189 (wrap64 (a29 - 8)) (wrap64 ((wrap64 (a29 - 8)) + 1)) t358 t385 t369 t428 t524, b3 g192 t189 (wrap64 (a29 - 8)) (wrap64 ((wrap64 (a29 - 8)) + 1)) t358 t385 t369 t428 t524] w554) := ⟨by rw [hst]; exact HS.out.setAll (l1 := []) (l2 := [b3 g192 t189 (wrap64 (a29 - 8)) (wrap64 ((wrap64 (a29 - 8)) + 1)) t358 t385 t369 t428 t524]) [.int .i64 t189, .int .i64 (wrap64 (a29 - 8)), .int .i64 (wrap64 ((wrap64 (a29 - 8)) + 1)), .int .i64 t358, .int .i64 t385, .int .i64 t369, .int .i64 t428, .int .i64 t524] rfl⟩; clear hst; replace HS : Aside0 (Sep (fps []) w [b3 g35 t189 (wrap64 (a29 - 8)) (wrap64 ((wrap64 (a29 - 8)) + 1)) t358 t385 t369 t428 t524] w554) := ⟨HS.out.sub (.cons_cons _ (.cons _ .slnil))⟩))
        have hc555 : w554.cell? ⟨g35, 0, none⟩ = some (.int .i64 t189) := blk_cellv (HS.out.at0) 0 rfl
        have hc556 : w554.cell? ⟨g35, 1, none⟩ = some (.int .i64 (wrap64 (a29 - 8))) := blk_cellv (HS.out.at0) 1 rfl
        have hc557 : w554.cell? ⟨g35, 2, none⟩ = some (.int .i64 (wrap64 ((wrap64 (a29 - 8)) + 1))) := blk_cellv (HS.out.at0) 2 rfl
        have hc558 : w554.cell? ⟨g35, 3, none⟩ = some (.int .i64 t358) := blk_cellv (HS.out.at0) 3 rfl
        have hc559 : w554.cell? ⟨g35, 4, none⟩ = some (.int .i64 t385) := blk_cellv (HS.out.at0) 4 rfl
        have hc560 : w554.cell? ⟨g35, 5, none⟩ = some (.int .i64 t369) := blk_cellv (HS.out.at0) 5 rfl
        have hc561 : w554.cell? ⟨g35, 6, none⟩ = some (.int .i64 t428) := blk_cellv (HS.out.at0) 6 rfl
        have hc562 : w554.cell? ⟨g35, 7, none⟩ = some (.int .i64 t524) := blk_cellv (HS.out.at0) 7 rfl
        refine bodyPost_ret (v := .tuple #[.agg #[.int .i64 t189, .int .i64 (wrap64 (a29 - 8)), .int .i64 (wrap64 ((wrap64 (a29 - 8)) + 1)), .int .i64 t358, .int .i64 t385, .int .i64 t369, .int .i64 t428, .int .i64 t524], .int .i64 0]) (by simp [results, Tryd.results65, go_sem, hc555, hc556, hc557, hc558, hc559, hc560, hc561, hc562]) rfl ?_
        rw [← some_eq H]
        exact ⟨(by first | rfl | (simp [IntKind.wrap_u32]; done)), HS.out.sub (.cons _ .slnil)⟩
  · replace H := if_no c86 H
    have c86b0 : (t83 == 0) = false := beq_eq_false_iff_ne.mpr c86
    have c86b1 : (t83 != 0) = true := bne_iff_ne.mpr c86
    clear c86
    have hc563 : w85.cell? ⟨g35, 0, none⟩ = some (.int .i64 0) := blk_cellv (HS.out.at1) 0 rfl
    have hz564 : w85.frozen? ⟨g35, 0, none⟩ = false := blk_fz (HS.out.at1) 0
    have hc565 : w85.cell? ⟨g35, 1, none⟩ = some (.int .i64 0) := blk_cellv (HS.out.at1) 1 rfl
    have hz566 : w85.frozen? ⟨g35, 1, none⟩ = false := blk_fz (HS.out.at1) 1
    have hc567 : w85.cell? ⟨g35, 2, none⟩ = some (.int .i64 0) := blk_cellv (HS.out.at1) 2 rfl
    have hz568 : w85.frozen? ⟨g35, 2, none⟩ = false := blk_fz (HS.out.at1) 2
    have hc569 : w85.cell? ⟨g35, 3, none⟩ = some (.int .i64 0) := blk_cellv (HS.out.at1) 3 rfl
    have hz570 : w85.frozen? ⟨g35, 3, none⟩ = false := blk_fz (HS.out.at1) 3
    have hc571 : w85.cell? ⟨g35, 4, none⟩ = some (.int .i64 0) := blk_cellv (HS.out.at1) 4 rfl
    have hz572 : w85.frozen? ⟨g35, 4, none⟩ = false := blk_fz (HS.out.at1) 4
    have hc573 : w85.cell? ⟨g35, 5, none⟩ = some (.int .i64 0) := blk_cellv (HS.out.at1) 5 rfl
    have hz574 : w85.frozen? ⟨g35, 5, none⟩ = false := blk_fz (HS.out.at1) 5
    have hc575 : w85.cell? ⟨g35, 6, none⟩ = some (.int .i64 0) := blk_cellv (HS.out.at1) 6 rfl
    have hz576 : w85.frozen? ⟨g35, 6, none⟩ = false := blk_fz (HS.out.at1) 6
    have hc577 : w85.cell? ⟨g35, 7, none⟩ = some (.int .i64 0) := blk_cellv (HS.out.at1) 7 rfl
    have hz578 : w85.frozen? ⟨g35, 7, none⟩ = false := blk_fz (HS.out.at1) 7
    go_wp2_with (first | ((with_reducible refine gate_store (t := 97) (p := 2) rfl ?_); refine store_event (w1 := (World.setCell (World.setCell (World.setCell (World.setCell (World.setCell (World.setCell (World.setCell (World.setCell w85 ⟨g35, 0, none⟩ (.int .i64 0)) ⟨g35, 1, none⟩ (.int .i64 0)) ⟨g35, 2, none⟩ (.int .i64 0)) ⟨g35, 3, none⟩ (.int .i64 0)) ⟨g35, 4, none⟩ (.int .i64 0)) ⟨g35, 5, none⟩ (.int .i64 0)) ⟨g35, 6, none⟩ (.int .i64 0)) ⟨g35, 7, none⟩ (.int .i64 0))) rfl (t := 97) (p := 2) rfl rfl ?hr ?_; (case hr => first | (go_simp; done) | (go_simp; rfl)); intro w579 hst; clear hc563 hz564 hc565 hz566 hc567 hz568 hc569 hz570 hc571 hz572 hc573 hz574 hc575 hz576 hc577 hz578; replace HS : Aside0 (Sep (fps []) w [b2 g32 a28 a29 a30 a31, b3 g35 0 0 0 0 0 0 0 0] w579) := ⟨by rw [hst]; exact HS.out.setAll (l1 := [b2 g32 a28 a29 a30 a31]) (l2 := []) [.int .i64 0, .int .i64 0, .int .i64 0, .int .i64 0, .int .i64 0, .int .i64 0, .int .i64 0, .int .i64 0] rfl⟩; clear hst; replace HS : Aside0 (Sep (fps []) w [b3 g35 0 0 0 0 0 0 0 0] w579) := ⟨HS.out.sub (.cons _ (.cons_cons _ .slnil))⟩))
    have hc580 : w579.cell? ⟨g35, 0, none⟩ = some (.int .i64 0) := blk_cellv (HS.out.at0) 0 rfl
    have hc581 : w579.cell? ⟨g35, 1, none⟩ = some (.int .i64 0) := blk_cellv (HS.out.at0) 1 rfl
    have hc582 : w579.cell? ⟨g35, 2, none⟩ = some (.int .i64 0) := blk_cellv (HS.out.at0) 2 rfl
    have hc583 : w579.cell? ⟨g35, 3, none⟩ = some (.int .i64 0) := blk_cellv (HS.out.at0) 3 rfl
    have hc584 : w579.cell? ⟨g35, 4, none⟩ = some (.int .i64 0) := blk_cellv (HS.out.at0) 4 rfl
    have hc585 : w579.cell? ⟨g35, 5, none⟩ = some (.int .i64 0) := blk_cellv (HS.out.at0) 5 rfl
    have hc586 : w579.cell? ⟨g35, 6, none⟩ = some (.int .i64 0) := blk_cellv (HS.out.at0) 6 rfl
    have hc587 : w579.cell? ⟨g35, 7, none⟩ = some (.int .i64 0) := blk_cellv (HS.out.at0) 7 rfl
    refine bodyPost_ret (v := .tuple #[.agg #[.int .i64 0, .int .i64 0, .int .i64 0, .int .i64 0, .int .i64 0, .int .i64 0, .int .i64 0, .int .i64 0], .int .i64 t83]) (by simp [results, Tryd.results65, go_sem, hc580, hc581, hc582, hc583, hc584, hc585, hc586, hc587]) rfl ?_
    rw [← some_eq H]
    exact ⟨(by first | rfl | (simp [IntKind.wrap_u32]; done)), HS.out.sub (.cons _ .slnil)⟩

set_option maxHeartbeats 30000000 in
set_option maxRecDepth 100000 in
theorem store_New.calls (a613 : Int) (r : Unit ⊕ (List Int)) (w : World)  (HGl0 : Aside0 (Gl 0 #[.int .i64 0, .int .i64 0, .int .i64 0, .int .i64 0, .int .i64 0] (fps []) w)) (HS : Aside0 (Sep (fps []) w [] w)) (H : Aside0 (store_New.f a613 = some r)) :
    Calls Tryd.prog 66 #[.int .i64 a613] w fun e w' => Sum.elim (fun (r : Unit) => e = .returned (.tuple #[.pointer none, .int .i64 2]) ∧ Sep (fps []) w [] w') (fun (r : List Int) => ∃ (g649 : Nat), e = .returned (.tuple #[.pointer (some ⟨g649, 0, none⟩), .int .i64 0]) ∧ ∃ (A650 : Option Addr) (m651 : Nat) (n652 : Nat), Sep (fps []) w [b7 g649 A650 m651 n652 0, r6 A650 m651 n652 r] w') r := by
  unfold store_New.f at H
  go_enter Tryd.func66, Tryd.ntmps66
  by_cases c627 : a613 < 0
  · replace H := if_yes c627 H
    have c627b0 : decide (a613 < 0) = true := decide_eq_true c627
    clear c627
    go_wp2_with fail
    go_ret2
    rw [← some_eq H]
    exact ⟨(by first | rfl | (simp [IntKind.wrap_u32]; done)), HS.out⟩
  · replace H := if_no c627 H
    have c627b0 : decide (a613 < 0) = false := decide_eq_false c627
    clear c627
    by_cases c628 : a613 > 8388608
    · replace H := if_yes c628 H
      have c628b0 : decide (8388608 < a613) = true := decide_eq_true c628
      clear c628
      go_wp2_with fail
      go_ret2
      rw [← some_eq H]
      exact ⟨(by first | rfl | (simp [IntKind.wrap_u32]; done)), HS.out⟩
    · replace H := if_no c628 H
      have c628b0 : decide (8388608 < a613) = false := decide_eq_false c628
      clear c628
      obtain ⟨m629, HA630, H⟩ := bind_some H
      obtain ⟨hm631, hn632⟩ := mkLen_eq HA630
      have hm631H := Aside0.mk hm631
      clear hm631
      go_wp2_with (first | ((with_reducible refine gate_dst (N := 11) rfl ?_); refine make_event rfl (N := 11) rfl 69 33 (.tmp 10) (.tmp 10) rfl .i64 (.int .u32 0) 4 Tryd.underlying69 (by kernel_rfl) rfl (by decide) (Value.int .u32) 0 rfl m629 (by show Value.int _ _ = _; rw [hm631H.out]) (by show Value.int _ _ = _; rw [hm631H.out]) (by omega) HS.out ?_; intro g633 w634 HS1; replace HS : Aside0 (Sep (fps []) w [r6 (some ⟨g633, 0, none⟩) m629 m629 (List.replicate m629 (0 : Int))] w634) := ⟨HS1⟩; clear HS1) | ((with_reducible refine gate_dst (N := 13) rfl ?_); refine box_on ?hg (N := 13) ?hd (cs := #[.slice (some ⟨g633, 0, none⟩) m629 m629, .int .u64 0]) (t := 154) ?hr ?_; (case hd => rfl); (case hg => rfl); (case hr => first | (go_simp; done) | (go_simp; rfl)); intro g637 hg w638 hbox hb; replace HS : Aside0 (Sep (fps []) w [r6 (some ⟨g633, 0, none⟩) m629 m629 (List.replicate m629 (0 : Int)), b7 g637 (some ⟨g633, 0, none⟩) m629 m629 0] w638) := ⟨HS.out.box hg hbox hb⟩; clear hg hbox hb))
      go_ret2
      rw [← some_eq H]
      exact ⟨g637, (by first | rfl | (simp [IntKind.wrap_u32]; done)), (some ⟨g633, 0, none⟩), m629, m629, ((HS.out).front 1 (by simp)).keep (l := [b7 g637 (some ⟨g633, 0, none⟩) m629 m629 0, r6 (some ⟨g633, 0, none⟩) m629 m629 (List.replicate m629 (0 : Int))]) (rest := [])⟩

set_option maxHeartbeats 30000000 in
set_option maxRecDepth 100000 in
theorem ground_New.calls (k : Nat) (a17 : Int) (a18 : Int) (a19 : Int) (a20 : Int) (r : Unit ⊕ ((Int × Int × Int × Int × List Int) ⊕ Int)) (w : World)  (HGl0 : Aside0 (Gl 0 #[.int .i64 0, .int .i64 0, .int .i64 0, .int .i64 0, .int .i64 0] (fps []) w)) (HS : Aside0 (Sep (fps []) w [] w)) (H : Aside0 (ground_New.f k a17 a18 a19 a20 = some r)) :
    Calls Tryd.prog 15 #[.agg #[.int .i64 a17, .int .i64 a18, .int .i64 a19, .int .i64 a20]] w fun e w' => Sum.elim (fun (r : Unit) => e = .returned (.tuple #[.pointer none, .int .i64 2]) ∧ Sep (fps []) w [] w') (fun (r_ : (Int × Int × Int × Int × List Int) ⊕ Int) => Sum.elim (fun (r : Int × Int × Int × Int × List Int) => ∃ (g799 : Nat), e = .returned (.tuple #[.pointer (some ⟨g799, 0, none⟩), .int .i64 0]) ∧ ∃ (g800 : Nat) (A801 : Option Addr) (m802 : Nat) (n803 : Nat), Sep (fps []) w [b8 g799 g800 r.1 r.2.1 r.2.2.1 r.2.2.2.1, b7 g800 A801 m802 n803 0, r6 A801 m802 n803 r.2.2.2.2] w') (fun (r : Int) => e = .returned (.tuple #[.pointer none, .int .i64 r]) ∧ Sep (fps []) w [] w') r_) r := by
  unfold ground_New.f at H
  go_enter Tryd.func15, Tryd.ntmps15
  go_wp2_with (first | ((with_reducible refine gate_dst (N := 1) rfl ?_); refine box_on ?hg (N := 1) ?hd (cs := #[.int .i64 a17, .int .i64 a18, .int .i64 a19, .int .i64 a20]) (t := 30) ?hr ?_; (case hd => rfl); (case hg => rfl); (case hr => first | (go_simp; done) | (go_simp; rfl)); intro g735 hg w736 hbox hb; replace HS : Aside0 (Sep (fps []) w [b2 g735 a17 a18 a19 a20] w736) := ⟨HS.out.box hg hbox hb⟩; clear hg hbox hb; have hc738 : w736.cell? ⟨g735, 0, none⟩ = some (.int .i64 a17) := blk_cellv (HS.out.at0) 0 rfl; have hc739 : w736.cell? ⟨g735, 1, none⟩ = some (.int .i64 a18) := blk_cellv (HS.out.at0) 1 rfl; have hc740 : w736.cell? ⟨g735, 2, none⟩ = some (.int .i64 a19) := blk_cellv (HS.out.at0) 2 rfl; have hc741 : w736.cell? ⟨g735, 3, none⟩ = some (.int .i64 a20) := blk_cellv (HS.out.at0) 3 rfl))
  clear hc738 hc739 hc740 hc741
  obtain ⟨t742, HA743, H⟩ := bind_some H
  refine (plan_Of.calls _ a17 a18 a19 a20 t742 _ ⟨HGl0.out.pass (l := []) HS.out⟩ ⟨Sep.start _⟩ HA743).mono ?_
  rintro e_ w744 ⟨rfl, hS⟩
  replace HS : Aside0 (Sep (fps []) w [b2 g735 a17 a18 a19 a20] w744) := ⟨HS.out.call hS⟩
  clear hS
  by_cases c765 : t742.2.2.2.2.2.2.2.2 = 0
  · replace H := if_yes c765 H
    have c765b0 : (t742.2.2.2.2.2.2.2.2 == 0) = true := beq_iff_eq.mpr c765
    have c765b1 : (t742.2.2.2.2.2.2.2.2 != 0) = false := bne_eq_false_iff_eq.mpr c765
    clear c765
    go_wp2_with (first | ((with_reducible refine gate_dst (N := 4) rfl ?_); refine box_on ?hg (N := 4) ?hd (cs := #[.int .i64 0, .int .i64 0, .int .i64 0, .int .i64 0, .int .i64 0, .int .i64 0, .int .i64 0, .int .i64 0]) (t := 97) ?hr ?_; (case hd => rfl); (case hg => rfl); (case hr => first | (go_simp; done) | (go_simp; rfl)); intro g745 hg w746 hbox hb; replace HS : Aside0 (Sep (fps []) w [b2 g735 a17 a18 a19 a20, b3 g745 0 0 0 0 0 0 0 0] w746) := ⟨HS.out.box hg hbox hb⟩; clear hg hbox hb; have hc748 : w746.cell? ⟨g745, 0, none⟩ = some (.int .i64 0) := blk_cellv (HS.out.at1) 0 rfl; have hz749 : w746.frozen? ⟨g745, 0, none⟩ = false := blk_fz (HS.out.at1) 0; have hc750 : w746.cell? ⟨g745, 1, none⟩ = some (.int .i64 0) := blk_cellv (HS.out.at1) 1 rfl; have hz751 : w746.frozen? ⟨g745, 1, none⟩ = false := blk_fz (HS.out.at1) 1; have hc752 : w746.cell? ⟨g745, 2, none⟩ = some (.int .i64 0) := blk_cellv (HS.out.at1) 2 rfl; have hz753 : w746.frozen? ⟨g745, 2, none⟩ = false := blk_fz (HS.out.at1) 2; have hc754 : w746.cell? ⟨g745, 3, none⟩ = some (.int .i64 0) := blk_cellv (HS.out.at1) 3 rfl; have hz755 : w746.frozen? ⟨g745, 3, none⟩ = false := blk_fz (HS.out.at1) 3; have hc756 : w746.cell? ⟨g745, 4, none⟩ = some (.int .i64 0) := blk_cellv (HS.out.at1) 4 rfl; have hz757 : w746.frozen? ⟨g745, 4, none⟩ = false := blk_fz (HS.out.at1) 4; have hc758 : w746.cell? ⟨g745, 5, none⟩ = some (.int .i64 0) := blk_cellv (HS.out.at1) 5 rfl; have hz759 : w746.frozen? ⟨g745, 5, none⟩ = false := blk_fz (HS.out.at1) 5; have hc760 : w746.cell? ⟨g745, 6, none⟩ = some (.int .i64 0) := blk_cellv (HS.out.at1) 6 rfl; have hz761 : w746.frozen? ⟨g745, 6, none⟩ = false := blk_fz (HS.out.at1) 6; have hc762 : w746.cell? ⟨g745, 7, none⟩ = some (.int .i64 0) := blk_cellv (HS.out.at1) 7 rfl; have hz763 : w746.frozen? ⟨g745, 7, none⟩ = false := blk_fz (HS.out.at1) 7) | ((with_reducible refine gate_store (t := 97) (p := 4) rfl ?_); refine store_event (w1 := (World.setCell (World.setCell (World.setCell (World.setCell (World.setCell (World.setCell (World.setCell (World.setCell w746 ⟨g745, 0, none⟩ (.int .i64 t742.1)) ⟨g745, 1, none⟩ (.int .i64 t742.2.1)) ⟨g745, 2, none⟩ (.int .i64 t742.2.2.1)) ⟨g745, 3, none⟩ (.int .i64 t742.2.2.2.1)) ⟨g745, 4, none⟩ (.int .i64 t742.2.2.2.2.1)) ⟨g745, 5, none⟩ (.int .i64 t742.2.2.2.2.2.1)) ⟨g745, 6, none⟩ (.int .i64 t742.2.2.2.2.2.2.1)) ⟨g745, 7, none⟩ (.int .i64 t742.2.2.2.2.2.2.2.1))) rfl (t := 97) (p := 4) rfl rfl ?hr ?_; (case hr => first | (go_simp; done) | (go_simp; rfl)); intro w764 hst; clear hc748 hz749 hc750 hz751 hc752 hz753 hc754 hz755 hc756 hz757 hc758 hz759 hc760 hz761 hc762 hz763; replace HS : Aside0 (Sep (fps []) w [b2 g735 a17 a18 a19 a20, b3 g745 t742.1 t742.2.1 t742.2.2.1 t742.2.2.2.1 t742.2.2.2.2.1 t742.2.2.2.2.2.1 t742.2.2.2.2.2.2.1 t742.2.2.2.2.2.2.2.1] w764) := ⟨by rw [hst]; exact HS.out.setAll (l1 := [b2 g735 a17 a18 a19 a20]) (l2 := []) [.int .i64 t742.1, .int .i64 t742.2.1, .int .i64 t742.2.2.1, .int .i64 t742.2.2.2.1, .int .i64 t742.2.2.2.2.1, .int .i64 t742.2.2.2.2.2.1, .int .i64 t742.2.2.2.2.2.2.1, .int .i64 t742.2.2.2.2.2.2.2.1] rfl⟩; clear hst; have hc766 : w764.cell? ⟨g745, 0, none⟩ = some (.int .i64 t742.1) := blk_cellv (HS.out.at1) 0 rfl))
    clear hc766
    obtain ⟨t767, HA768, H⟩ := bind_some H
    rcases t767 with t769 | t770
    · have H := sum_l H
      refine (store_New.calls t742.1 (.inl t769) _ ⟨HGl0.out.pass (l := []) HS.out⟩ ⟨Sep.start _⟩ HA768).mono ?_
      rintro e_ w771 ⟨rfl, hS⟩
      replace HS : Aside0 (Sep (fps []) w [b2 g735 a17 a18 a19 a20, b3 g745 t742.1 t742.2.1 t742.2.2.1 t742.2.2.2.1 t742.2.2.2.2.1 t742.2.2.2.2.2.1 t742.2.2.2.2.2.2.1 t742.2.2.2.2.2.2.2.1] w771) := ⟨HS.out.call hS⟩
      clear hS
      replace HS : Aside0 (Sep (fps []) w [b2 g735 a17 a18 a19 a20] w771) := ⟨HS.out.sub (.cons_cons _ (.cons _ .slnil))⟩
      replace HS : Aside0 (Sep (fps []) w [] w771) := ⟨HS.out.sub (.cons _ .slnil)⟩
      go_wp2_with fail
      go_ret2
      rw [← some_eq H]
      exact ⟨(by first | rfl | (simp [IntKind.wrap_u32]; done)), HS.out⟩
    · have H := sum_r H
      refine (store_New.calls t742.1 (.inr t770) _ ⟨HGl0.out.pass (l := []) HS.out⟩ ⟨Sep.start _⟩ HA768).mono ?_
      rintro e_ w772 ⟨g775, rfl, A776, m777, n778, hS⟩
      replace HS : Aside0 (Sep (fps []) w [b7 g775 A776 m777 n778 0, r6 A776 m777 n778 t770, b2 g735 a17 a18 a19 a20, b3 g745 t742.1 t742.2.1 t742.2.2.1 t742.2.2.2.1 t742.2.2.2.2.1 t742.2.2.2.2.2.1 t742.2.2.2.2.2.2.1 t742.2.2.2.2.2.2.2.1] w772) := ⟨HS.out.call hS⟩
      clear hS
      obtain rfl := (row_len (HS.out.at1)).symm
      replace HS : Aside0 (Sep (fps []) w [b7 g775 A776 t770.length n778 0, r6 A776 t770.length n778 t770, b2 g735 a17 a18 a19 a20] w772) := ⟨HS.out.sub (.cons_cons _ (.cons_cons _ (.cons_cons _ (.cons _ .slnil))))⟩
      have hc780 : w772.cell? ⟨g735, 0, none⟩ = some (.int .i64 a17) := blk_cellv (HS.out.at2) 0 rfl
      have hc781 : w772.cell? ⟨g735, 1, none⟩ = some (.int .i64 a18) := blk_cellv (HS.out.at2) 1 rfl
      have hc782 : w772.cell? ⟨g735, 2, none⟩ = some (.int .i64 a19) := blk_cellv (HS.out.at2) 2 rfl
      have hc783 : w772.cell? ⟨g735, 3, none⟩ = some (.int .i64 a20) := blk_cellv (HS.out.at2) 3 rfl
      go_wp2_with (first | ((with_reducible refine gate_dst (N := 28) rfl ?_); refine box_on ?hg (N := 28) ?hd (cs := #[.pointer (some ⟨g775, 0, none⟩), .int .i64 a17, .int .i64 a18, .int .i64 a19, .int .i64 a20]) (t := 106) ?hr ?_; (case hd => rfl); (case hg => rfl); (case hr => first | (go_simp; done) | (go_simp; rfl)); intro g784 hg w785 hbox hb; clear hc780 hc781 hc782 hc783; replace HS : Aside0 (Sep (fps []) w [b7 g775 A776 t770.length n778 0, r6 A776 t770.length n778 t770, b2 g735 a17 a18 a19 a20, b8 g784 g775 a17 a18 a19 a20] w785) := ⟨HS.out.box hg hbox hb⟩; clear hg hbox hb; replace HS : Aside0 (Sep (fps []) w [b7 g775 A776 t770.length n778 0, r6 A776 t770.length n778 t770, b8 g784 g775 a17 a18 a19 a20] w785) := ⟨HS.out.sub (.cons_cons _ (.cons_cons _ (.cons _ (.cons_cons _ .slnil))))⟩))
      go_ret2
      rw [← some_eq H]
      exact ⟨g784, (by first | rfl | (simp [IntKind.wrap_u32]; done)), g775, A776, t770.length, n778, ((((HS.out).front 1 (by simp)).front 1 (by simp)).front 2 (by simp)).keep (l := [b8 g784 g775 a17 a18 a19 a20, b7 g775 A776 t770.length n778 0, r6 A776 t770.length n778 t770]) (rest := [])⟩
  · replace H := if_no c765 H
    have c765b0 : (t742.2.2.2.2.2.2.2.2 == 0) = false := beq_eq_false_iff_ne.mpr c765
    have c765b1 : (t742.2.2.2.2.2.2.2.2 != 0) = true := bne_iff_ne.mpr c765
    clear c765
    go_wp2_with (first | ((with_reducible refine gate_dst (N := 4) rfl ?_); refine box_on ?hg (N := 4) ?hd (cs := #[.int .i64 0, .int .i64 0, .int .i64 0, .int .i64 0, .int .i64 0, .int .i64 0, .int .i64 0, .int .i64 0]) (t := 97) ?hr ?_; (case hd => rfl); (case hg => rfl); (case hr => first | (go_simp; done) | (go_simp; rfl)); intro g745 hg w746 hbox hb; replace HS : Aside0 (Sep (fps []) w [b2 g735 a17 a18 a19 a20, b3 g745 0 0 0 0 0 0 0 0] w746) := ⟨HS.out.box hg hbox hb⟩; clear hg hbox hb; have hc748 : w746.cell? ⟨g745, 0, none⟩ = some (.int .i64 0) := blk_cellv (HS.out.at1) 0 rfl; have hz749 : w746.frozen? ⟨g745, 0, none⟩ = false := blk_fz (HS.out.at1) 0; have hc750 : w746.cell? ⟨g745, 1, none⟩ = some (.int .i64 0) := blk_cellv (HS.out.at1) 1 rfl; have hz751 : w746.frozen? ⟨g745, 1, none⟩ = false := blk_fz (HS.out.at1) 1; have hc752 : w746.cell? ⟨g745, 2, none⟩ = some (.int .i64 0) := blk_cellv (HS.out.at1) 2 rfl; have hz753 : w746.frozen? ⟨g745, 2, none⟩ = false := blk_fz (HS.out.at1) 2; have hc754 : w746.cell? ⟨g745, 3, none⟩ = some (.int .i64 0) := blk_cellv (HS.out.at1) 3 rfl; have hz755 : w746.frozen? ⟨g745, 3, none⟩ = false := blk_fz (HS.out.at1) 3; have hc756 : w746.cell? ⟨g745, 4, none⟩ = some (.int .i64 0) := blk_cellv (HS.out.at1) 4 rfl; have hz757 : w746.frozen? ⟨g745, 4, none⟩ = false := blk_fz (HS.out.at1) 4; have hc758 : w746.cell? ⟨g745, 5, none⟩ = some (.int .i64 0) := blk_cellv (HS.out.at1) 5 rfl; have hz759 : w746.frozen? ⟨g745, 5, none⟩ = false := blk_fz (HS.out.at1) 5; have hc760 : w746.cell? ⟨g745, 6, none⟩ = some (.int .i64 0) := blk_cellv (HS.out.at1) 6 rfl; have hz761 : w746.frozen? ⟨g745, 6, none⟩ = false := blk_fz (HS.out.at1) 6; have hc762 : w746.cell? ⟨g745, 7, none⟩ = some (.int .i64 0) := blk_cellv (HS.out.at1) 7 rfl; have hz763 : w746.frozen? ⟨g745, 7, none⟩ = false := blk_fz (HS.out.at1) 7) | ((with_reducible refine gate_store (t := 97) (p := 4) rfl ?_); refine store_event (w1 := (World.setCell (World.setCell (World.setCell (World.setCell (World.setCell (World.setCell (World.setCell (World.setCell w746 ⟨g745, 0, none⟩ (.int .i64 t742.1)) ⟨g745, 1, none⟩ (.int .i64 t742.2.1)) ⟨g745, 2, none⟩ (.int .i64 t742.2.2.1)) ⟨g745, 3, none⟩ (.int .i64 t742.2.2.2.1)) ⟨g745, 4, none⟩ (.int .i64 t742.2.2.2.2.1)) ⟨g745, 5, none⟩ (.int .i64 t742.2.2.2.2.2.1)) ⟨g745, 6, none⟩ (.int .i64 t742.2.2.2.2.2.2.1)) ⟨g745, 7, none⟩ (.int .i64 t742.2.2.2.2.2.2.2.1))) rfl (t := 97) (p := 4) rfl rfl ?hr ?_; (case hr => first | (go_simp; done) | (go_simp; rfl)); intro w764 hst; clear hc748 hz749 hc750 hz751 hc752 hz753 hc754 hz755 hc756 hz757 hc758 hz759 hc760 hz761 hc762 hz763; replace HS : Aside0 (Sep (fps []) w [b2 g735 a17 a18 a19 a20, b3 g745 t742.1 t742.2.1 t742.2.2.1 t742.2.2.2.1 t742.2.2.2.2.1 t742.2.2.2.2.2.1 t742.2.2.2.2.2.2.1 t742.2.2.2.2.2.2.2.1] w764) := ⟨by rw [hst]; exact HS.out.setAll (l1 := [b2 g735 a17 a18 a19 a20]) (l2 := []) [.int .i64 t742.1, .int .i64 t742.2.1, .int .i64 t742.2.2.1, .int .i64 t742.2.2.2.1, .int .i64 t742.2.2.2.2.1, .int .i64 t742.2.2.2.2.2.1, .int .i64 t742.2.2.2.2.2.2.1, .int .i64 t742.2.2.2.2.2.2.2.1] rfl⟩; clear hst; replace HS : Aside0 (Sep (fps []) w [] w764) := ⟨HS.out.sub (.cons _ (.cons _ .slnil))⟩))
    go_ret2
    rw [← some_eq H]
    exact ⟨(by first | rfl | (simp [IntKind.wrap_u32]; done)), HS.out⟩

set_option maxHeartbeats 30000000 in
set_option maxRecDepth 100000 in
theorem quitrentlaw09_tagOf.calls (a831 : Int) (r : Int × Int × Int × Int × Int × Int × Int) (w : World)  (HGl0 : Aside0 (Gl 0 #[.int .i64 0, .int .i64 0, .int .i64 0, .int .i64 0, .int .i64 0] (fps []) w)) (HS : Aside0 (Sep (fps []) w [] w)) (H : Aside0 (quitrentlaw09_tagOf.f a831 = some r)) :
    Calls Tryd.prog 78 #[.int .u8 a831] w fun e w' => e = .returned (.agg #[.int .i64 r.1, .int .i64 r.2.1, .int .i64 r.2.2.1, .int .i64 r.2.2.2.1, .int .i64 r.2.2.2.2.1, .int .i64 r.2.2.2.2.2.1, .int .i64 r.2.2.2.2.2.2]) ∧ Sep (fps []) w [] w' := by
  unfold quitrentlaw09_tagOf.f at H
  go_enter Tryd.func78, Tryd.ntmps78
  by_cases c854 : (wrap64 (Int.tmod a831 4)) = 1
  · replace H := if_yes c854 H
    have c854b0 : ((wrap64 (Int.tmod a831 4)) == 1) = true := beq_iff_eq.mpr c854
    have c854b1 : ((wrap64 (Int.tmod a831 4)) != 1) = false := bne_eq_false_iff_eq.mpr c854
    clear c854
    go_wp2_with (first | ((with_reducible refine gate_dst (N := 2) rfl ?_); refine box_on ?hg (N := 2) ?hd (cs := #[.int .i64 0, .int .i64 0, .int .i64 0, .int .i64 0, .int .i64 0, .int .i64 0, .int .i64 0]) (t := 32) ?hr ?_; (case hd => rfl); (case hg => rfl); (case hr => first | (go_simp; done) | (go_simp; rfl)); intro g832 hg w833 hbox hb; replace HS : Aside0 (Sep (fps []) w [b9 g832 0 0 0 0 0 0 0] w833) := ⟨HS.out.box hg hbox hb⟩; clear hg hbox hb) | ((with_reducible refine gate_dst (N := 3) rfl ?_); refine box_on ?hg (N := 3) ?hd (cs := #[.int .i64 0, .int .i64 0, .int .i64 0, .int .i64 0, .int .i64 0, .int .i64 0, .int .i64 0]) (t := 32) ?hr ?_; (case hd => rfl); (case hg => rfl); (case hr => first | (go_simp; done) | (go_simp; rfl)); intro g835 hg w836 hbox hb; replace HS : Aside0 (Sep (fps []) w [b9 g832 0 0 0 0 0 0 0, b9 g835 0 0 0 0 0 0 0] w836) := ⟨HS.out.box hg hbox hb⟩; clear hg hbox hb; have hc838 : w836.cell? ⟨g835, 0, none⟩ = some (.int .i64 0) := blk_cellv (HS.out.at1) 0 rfl; have hz839 : w836.frozen? ⟨g835, 0, none⟩ = false := blk_fz (HS.out.at1) 0; have hc840 : w836.cell? ⟨g835, 1, none⟩ = some (.int .i64 0) := blk_cellv (HS.out.at1) 1 rfl; have hz841 : w836.frozen? ⟨g835, 1, none⟩ = false := blk_fz (HS.out.at1) 1; have hc842 : w836.cell? ⟨g835, 2, none⟩ = some (.int .i64 0) := blk_cellv (HS.out.at1) 2 rfl; have hz843 : w836.frozen? ⟨g835, 2, none⟩ = false := blk_fz (HS.out.at1) 2; have hc844 : w836.cell? ⟨g835, 3, none⟩ = some (.int .i64 0) := blk_cellv (HS.out.at1) 3 rfl; have hz845 : w836.frozen? ⟨g835, 3, none⟩ = false := blk_fz (HS.out.at1) 3; have hc846 : w836.cell? ⟨g835, 4, none⟩ = some (.int .i64 0) := blk_cellv (HS.out.at1) 4 rfl; have hz847 : w836.frozen? ⟨g835, 4, none⟩ = false := blk_fz (HS.out.at1) 4; have hc848 : w836.cell? ⟨g835, 5, none⟩ = some (.int .i64 0) := blk_cellv (HS.out.at1) 5 rfl; have hz849 : w836.frozen? ⟨g835, 5, none⟩ = false := blk_fz (HS.out.at1) 5; have hc850 : w836.cell? ⟨g835, 6, none⟩ = some (.int .i64 0) := blk_cellv (HS.out.at1) 6 rfl; have hz851 : w836.frozen? ⟨g835, 6, none⟩ = false := blk_fz (HS.out.at1) 6) | ((with_reducible refine gate_store (t := 32) (p := 3) rfl ?_); refine store_event (w1 := (World.setCell (World.setCell (World.setCell (World.setCell (World.setCell (World.setCell (World.setCell w836 ⟨g835, 0, none⟩ (.int .i64 (wrap64 (Int.tmod a831 4)))) ⟨g835, 1, none⟩ (.int .i64 0)) ⟨g835, 2, none⟩ (.int .i64 0)) ⟨g835, 3, none⟩ (.int .i64 0)) ⟨g835, 4, none⟩ (.int .i64 0)) ⟨g835, 5, none⟩ (.int .i64 0)) ⟨g835, 6, none⟩ (.int .i64 0))) rfl (t := 32) (p := 3) rfl rfl ?hr ?_; (case hr => first | (go_simp; done) | (go_simp; rfl)); intro w852 hst; clear hc838 hz839 hc840 hz841 hc842 hz843 hc844 hz845 hc846 hz847 hc848 hz849 hc850 hz851; replace HS : Aside0 (Sep (fps []) w [b9 g832 0 0 0 0 0 0 0, b9 g835 (wrap64 (Int.tmod a831 4)) 0 0 0 0 0 0] w852) := ⟨by rw [hst]; exact HS.out.setAll (l1 := [b9 g832 0 0 0 0 0 0 0]) (l2 := []) [.int .i64 (wrap64 (Int.tmod a831 4)), .int .i64 0, .int .i64 0, .int .i64 0, .int .i64 0, .int .i64 0, .int .i64 0] rfl⟩; clear hst; have hc853 : w852.cell? ⟨g835, 0, none⟩ = some (.int .i64 (wrap64 (Int.tmod a831 4))) := blk_cellv (HS.out.at1) 0 rfl; have hc855 : w852.cell? ⟨g835, 1, none⟩ = some (.int .i64 0) := blk_cellv (HS.out.at1) 1 rfl; have hz856 : w852.frozen? ⟨g835, 1, none⟩ = false := blk_fz (HS.out.at1) 1) | ((with_reducible refine gate_store (t := 3) (p := 24) rfl ?_); refine store_event (w1 := (World.setCell w852 ⟨g835, 1, none⟩ (.int .i64 (((Int.tdiv a831 4) % 256) % 2)))) rfl (t := 3) (p := 24) rfl rfl ?hr ?_; (case hr => first | (go_simp; done) | (go_simp; rfl)); intro w857 hst; clear hc853 hc855 hz856; have hq0 : Sep (fps []) w [b9 g832 0 0 0 0 0 0 0, b9 g835 (wrap64 (Int.tmod a831 4)) (((Int.tdiv a831 4) % 256) % 2) 0 0 0 0 0] (World.setCell w852 ⟨g835, 1, none⟩ (.int .i64 (((Int.tdiv a831 4) % 256) % 2))) := (HS.out).set1 (l1 := [b9 g832 0 0 0 0 0 0 0]) (l2 := []) 1 (.int .i64 (((Int.tdiv a831 4) % 256) % 2)); replace HS : Aside0 (Sep (fps []) w [b9 g832 0 0 0 0 0 0 0, b9 g835 (wrap64 (Int.tmod a831 4)) (((Int.tdiv a831 4) % 256) % 2) 0 0 0 0 0] w857) := ⟨by rw [hst]; exact hq0⟩; clear hq0; clear hst; have hc858 : w857.cell? ⟨g835, 3, none⟩ = some (.int .i64 0) := blk_cellv (HS.out.at1) 3 rfl; have hz859 : w857.frozen? ⟨g835, 3, none⟩ = false := blk_fz (HS.out.at1) 3) | ((with_reducible refine gate_store (t := 3) (p := 25) rfl ?_); refine store_event (w1 := (World.setCell w857 ⟨g835, 3, none⟩ (.int .i64 (((Int.tdiv a831 8) % 256) % 2)))) rfl (t := 3) (p := 25) rfl rfl ?hr ?_; (case hr => first | (go_simp; done) | (go_simp; rfl)); intro w860 hst; clear hc858 hz859; have hq0 : Sep (fps []) w [b9 g832 0 0 0 0 0 0 0, b9 g835 (wrap64 (Int.tmod a831 4)) (((Int.tdiv a831 4) % 256) % 2) 0 (((Int.tdiv a831 8) % 256) % 2) 0 0 0] (World.setCell w857 ⟨g835, 3, none⟩ (.int .i64 (((Int.tdiv a831 8) % 256) % 2))) := (HS.out).set1 (l1 := [b9 g832 0 0 0 0 0 0 0]) (l2 := []) 3 (.int .i64 (((Int.tdiv a831 8) % 256) % 2)); replace HS : Aside0 (Sep (fps []) w [b9 g832 0 0 0 0 0 0 0, b9 g835 (wrap64 (Int.tmod a831 4)) (((Int.tdiv a831 4) % 256) % 2) 0 (((Int.tdiv a831 8) % 256) % 2) 0 0 0] w860) := ⟨by rw [hst]; exact hq0⟩; clear hq0; clear hst; have hc861 : w860.cell? ⟨g835, 0, none⟩ = some (.int .i64 (wrap64 (Int.tmod a831 4))) := blk_cellv (HS.out.at1) 0 rfl; have hc862 : w860.cell? ⟨g835, 1, none⟩ = some (.int .i64 (((Int.tdiv a831 4) % 256) % 2)) := blk_cellv (HS.out.at1) 1 rfl; have hc863 : w860.cell? ⟨g835, 2, none⟩ = some (.int .i64 0) := blk_cellv (HS.out.at1) 2 rfl; have hc864 : w860.cell? ⟨g835, 3, none⟩ = some (.int .i64 (((Int.tdiv a831 8) % 256) % 2)) := blk_cellv (HS.out.at1) 3 rfl; have hc865 : w860.cell? ⟨g835, 4, none⟩ = some (.int .i64 0) := blk_cellv (HS.out.at1) 4 rfl; have hc866 : w860.cell? ⟨g835, 5, none⟩ = some (.int .i64 0) := blk_cellv (HS.out.at1) 5 rfl; have hc867 : w860.cell? ⟨g835, 6, none⟩ = some (.int .i64 0) := blk_cellv (HS.out.at1) 6 rfl; have hc868 : w860.cell? ⟨g832, 0, none⟩ = some (.int .i64 0) := blk_cellv (HS.out.at0) 0 rfl; have hz869 : w860.frozen? ⟨g832, 0, none⟩ = false := blk_fz (HS.out.at0) 0; have hc870 : w860.cell? ⟨g832, 1, none⟩ = some (.int .i64 0) := blk_cellv (HS.out.at0) 1 rfl; have hz871 : w860.frozen? ⟨g832, 1, none⟩ = false := blk_fz (HS.out.at0) 1; have hc872 : w860.cell? ⟨g832, 2, none⟩ = some (.int .i64 0) := blk_cellv (HS.out.at0) 2 rfl; have hz873 : w860.frozen? ⟨g832, 2, none⟩ = false := blk_fz (HS.out.at0) 2; have hc874 : w860.cell? ⟨g832, 3, none⟩ = some (.int .i64 0) := blk_cellv (HS.out.at0) 3 rfl; have hz875 : w860.frozen? ⟨g832, 3, none⟩ = false := blk_fz (HS.out.at0) 3; have hc876 : w860.cell? ⟨g832, 4, none⟩ = some (.int .i64 0) := blk_cellv (HS.out.at0) 4 rfl; have hz877 : w860.frozen? ⟨g832, 4, none⟩ = false := blk_fz (HS.out.at0) 4; have hc878 : w860.cell? ⟨g832, 5, none⟩ = some (.int .i64 0) := blk_cellv (HS.out.at0) 5 rfl; have hz879 : w860.frozen? ⟨g832, 5, none⟩ = false := blk_fz (HS.out.at0) 5; have hc880 : w860.cell? ⟨g832, 6, none⟩ = some (.int .i64 0) := blk_cellv (HS.out.at0) 6 rfl; have hz881 : w860.frozen? ⟨g832, 6, none⟩ = false := blk_fz (HS.out.at0) 6) | ((with_reducible refine gate_store (t := 32) (p := 2) rfl ?_); refine store_event (w1 := (World.setCell (World.setCell (World.setCell (World.setCell (World.setCell (World.setCell (World.setCell w860 ⟨g832, 0, none⟩ (.int .i64 (wrap64 (Int.tmod a831 4)))) ⟨g832, 1, none⟩ (.int .i64 (((Int.tdiv a831 4) % 256) % 2))) ⟨g832, 2, none⟩ (.int .i64 0)) ⟨g832, 3, none⟩ (.int .i64 (((Int.tdiv a831 8) % 256) % 2))) ⟨g832, 4, none⟩ (.int .i64 0)) ⟨g832, 5, none⟩ (.int .i64 0)) ⟨g832, 6, none⟩ (.int .i64 0))) rfl (t := 32) (p := 2) rfl rfl ?hr ?_; (case hr => first | (go_simp; done) | (go_simp; rfl)); intro w882 hst; clear hc861 hc862 hc863 hc864 hc865 hc866 hc867 hc868 hz869 hc870 hz871 hc872 hz873 hc874 hz875 hc876 hz877 hc878 hz879 hc880 hz881; replace HS : Aside0 (Sep (fps []) w [b9 g832 (wrap64 (Int.tmod a831 4)) (((Int.tdiv a831 4) % 256) % 2) 0 (((Int.tdiv a831 8) % 256) % 2) 0 0 0, b9 g835 (wrap64 (Int.tmod a831 4)) (((Int.tdiv a831 4) % 256) % 2) 0 (((Int.tdiv a831 8) % 256) % 2) 0 0 0] w882) := ⟨by rw [hst]; exact HS.out.setAll (l1 := []) (l2 := [b9 g835 (wrap64 (Int.tmod a831 4)) (((Int.tdiv a831 4) % 256) % 2) 0 (((Int.tdiv a831 8) % 256) % 2) 0 0 0]) [.int .i64 (wrap64 (Int.tmod a831 4)), .int .i64 (((Int.tdiv a831 4) % 256) % 2), .int .i64 0, .int .i64 (((Int.tdiv a831 8) % 256) % 2), .int .i64 0, .int .i64 0, .int .i64 0] rfl⟩; clear hst; replace HS : Aside0 (Sep (fps []) w [b9 g832 (wrap64 (Int.tmod a831 4)) (((Int.tdiv a831 4) % 256) % 2) 0 (((Int.tdiv a831 8) % 256) % 2) 0 0 0] w882) := ⟨HS.out.sub (.cons_cons _ (.cons _ .slnil))⟩))
    have hc883 : w882.cell? ⟨g832, 0, none⟩ = some (.int .i64 (wrap64 (Int.tmod a831 4))) := blk_cellv (HS.out.at0) 0 rfl
    have hc884 : w882.cell? ⟨g832, 1, none⟩ = some (.int .i64 (((Int.tdiv a831 4) % 256) % 2)) := blk_cellv (HS.out.at0) 1 rfl
    have hc885 : w882.cell? ⟨g832, 2, none⟩ = some (.int .i64 0) := blk_cellv (HS.out.at0) 2 rfl
    have hc886 : w882.cell? ⟨g832, 3, none⟩ = some (.int .i64 (((Int.tdiv a831 8) % 256) % 2)) := blk_cellv (HS.out.at0) 3 rfl
    have hc887 : w882.cell? ⟨g832, 4, none⟩ = some (.int .i64 0) := blk_cellv (HS.out.at0) 4 rfl
    have hc888 : w882.cell? ⟨g832, 5, none⟩ = some (.int .i64 0) := blk_cellv (HS.out.at0) 5 rfl
    have hc889 : w882.cell? ⟨g832, 6, none⟩ = some (.int .i64 0) := blk_cellv (HS.out.at0) 6 rfl
    refine bodyPost_ret (v := .agg #[.int .i64 (wrap64 (Int.tmod a831 4)), .int .i64 (((Int.tdiv a831 4) % 256) % 2), .int .i64 0, .int .i64 (((Int.tdiv a831 8) % 256) % 2), .int .i64 0, .int .i64 0, .int .i64 0]) (by simp [results, Tryd.results78, go_sem, hc883, hc884, hc885, hc886, hc887, hc888, hc889]) rfl ?_
    rw [← some_eq H]
    exact ⟨(by first | rfl | (simp [IntKind.wrap_u32]; done)), HS.out.sub (.cons _ .slnil)⟩
  · replace H := if_no c854 H
    have c854b0 : ((wrap64 (Int.tmod a831 4)) == 1) = false := beq_eq_false_iff_ne.mpr c854
    have c854b1 : ((wrap64 (Int.tmod a831 4)) != 1) = true := bne_iff_ne.mpr c854
    clear c854
    by_cases c890 : (wrap64 (Int.tmod a831 4)) = 2
    · replace H := if_yes c890 H
      have c890b0 : ((wrap64 (Int.tmod a831 4)) == 2) = true := beq_iff_eq.mpr c890
      have c890b1 : ((wrap64 (Int.tmod a831 4)) != 2) = false := bne_eq_false_iff_eq.mpr c890
      clear c890
      go_wp2_with (first | ((with_reducible refine gate_dst (N := 2) rfl ?_); refine box_on ?hg (N := 2) ?hd (cs := #[.int .i64 0, .int .i64 0, .int .i64 0, .int .i64 0, .int .i64 0, .int .i64 0, .int .i64 0]) (t := 32) ?hr ?_; (case hd => rfl); (case hg => rfl); (case hr => first | (go_simp; done) | (go_simp; rfl)); intro g832 hg w833 hbox hb; replace HS : Aside0 (Sep (fps []) w [b9 g832 0 0 0 0 0 0 0] w833) := ⟨HS.out.box hg hbox hb⟩; clear hg hbox hb) | ((with_reducible refine gate_dst (N := 3) rfl ?_); refine box_on ?hg (N := 3) ?hd (cs := #[.int .i64 0, .int .i64 0, .int .i64 0, .int .i64 0, .int .i64 0, .int .i64 0, .int .i64 0]) (t := 32) ?hr ?_; (case hd => rfl); (case hg => rfl); (case hr => first | (go_simp; done) | (go_simp; rfl)); intro g835 hg w836 hbox hb; replace HS : Aside0 (Sep (fps []) w [b9 g832 0 0 0 0 0 0 0, b9 g835 0 0 0 0 0 0 0] w836) := ⟨HS.out.box hg hbox hb⟩; clear hg hbox hb; have hc838 : w836.cell? ⟨g835, 0, none⟩ = some (.int .i64 0) := blk_cellv (HS.out.at1) 0 rfl; have hz839 : w836.frozen? ⟨g835, 0, none⟩ = false := blk_fz (HS.out.at1) 0; have hc840 : w836.cell? ⟨g835, 1, none⟩ = some (.int .i64 0) := blk_cellv (HS.out.at1) 1 rfl; have hz841 : w836.frozen? ⟨g835, 1, none⟩ = false := blk_fz (HS.out.at1) 1; have hc842 : w836.cell? ⟨g835, 2, none⟩ = some (.int .i64 0) := blk_cellv (HS.out.at1) 2 rfl; have hz843 : w836.frozen? ⟨g835, 2, none⟩ = false := blk_fz (HS.out.at1) 2; have hc844 : w836.cell? ⟨g835, 3, none⟩ = some (.int .i64 0) := blk_cellv (HS.out.at1) 3 rfl; have hz845 : w836.frozen? ⟨g835, 3, none⟩ = false := blk_fz (HS.out.at1) 3; have hc846 : w836.cell? ⟨g835, 4, none⟩ = some (.int .i64 0) := blk_cellv (HS.out.at1) 4 rfl; have hz847 : w836.frozen? ⟨g835, 4, none⟩ = false := blk_fz (HS.out.at1) 4; have hc848 : w836.cell? ⟨g835, 5, none⟩ = some (.int .i64 0) := blk_cellv (HS.out.at1) 5 rfl; have hz849 : w836.frozen? ⟨g835, 5, none⟩ = false := blk_fz (HS.out.at1) 5; have hc850 : w836.cell? ⟨g835, 6, none⟩ = some (.int .i64 0) := blk_cellv (HS.out.at1) 6 rfl; have hz851 : w836.frozen? ⟨g835, 6, none⟩ = false := blk_fz (HS.out.at1) 6) | ((with_reducible refine gate_store (t := 32) (p := 3) rfl ?_); refine store_event (w1 := (World.setCell (World.setCell (World.setCell (World.setCell (World.setCell (World.setCell (World.setCell w836 ⟨g835, 0, none⟩ (.int .i64 (wrap64 (Int.tmod a831 4)))) ⟨g835, 1, none⟩ (.int .i64 0)) ⟨g835, 2, none⟩ (.int .i64 0)) ⟨g835, 3, none⟩ (.int .i64 0)) ⟨g835, 4, none⟩ (.int .i64 0)) ⟨g835, 5, none⟩ (.int .i64 0)) ⟨g835, 6, none⟩ (.int .i64 0))) rfl (t := 32) (p := 3) rfl rfl ?hr ?_; (case hr => first | (go_simp; done) | (go_simp; rfl)); intro w852 hst; clear hc838 hz839 hc840 hz841 hc842 hz843 hc844 hz845 hc846 hz847 hc848 hz849 hc850 hz851; replace HS : Aside0 (Sep (fps []) w [b9 g832 0 0 0 0 0 0 0, b9 g835 (wrap64 (Int.tmod a831 4)) 0 0 0 0 0 0] w852) := ⟨by rw [hst]; exact HS.out.setAll (l1 := [b9 g832 0 0 0 0 0 0 0]) (l2 := []) [.int .i64 (wrap64 (Int.tmod a831 4)), .int .i64 0, .int .i64 0, .int .i64 0, .int .i64 0, .int .i64 0, .int .i64 0] rfl⟩; clear hst; have hc853 : w852.cell? ⟨g835, 0, none⟩ = some (.int .i64 (wrap64 (Int.tmod a831 4))) := blk_cellv (HS.out.at1) 0 rfl; have hc891 : w852.cell? ⟨g835, 1, none⟩ = some (.int .i64 0) := blk_cellv (HS.out.at1) 1 rfl; have hz892 : w852.frozen? ⟨g835, 1, none⟩ = false := blk_fz (HS.out.at1) 1) | ((with_reducible refine gate_store (t := 3) (p := 24) rfl ?_); refine store_event (w1 := (World.setCell w852 ⟨g835, 1, none⟩ (.int .i64 (((Int.tdiv a831 4) % 256) % 2)))) rfl (t := 3) (p := 24) rfl rfl ?hr ?_; (case hr => first | (go_simp; done) | (go_simp; rfl)); intro w893 hst; clear hc853 hc891 hz892; have hq0 : Sep (fps []) w [b9 g832 0 0 0 0 0 0 0, b9 g835 (wrap64 (Int.tmod a831 4)) (((Int.tdiv a831 4) % 256) % 2) 0 0 0 0 0] (World.setCell w852 ⟨g835, 1, none⟩ (.int .i64 (((Int.tdiv a831 4) % 256) % 2))) := (HS.out).set1 (l1 := [b9 g832 0 0 0 0 0 0 0]) (l2 := []) 1 (.int .i64 (((Int.tdiv a831 4) % 256) % 2)); replace HS : Aside0 (Sep (fps []) w [b9 g832 0 0 0 0 0 0 0, b9 g835 (wrap64 (Int.tmod a831 4)) (((Int.tdiv a831 4) % 256) % 2) 0 0 0 0 0] w893) := ⟨by rw [hst]; exact hq0⟩; clear hq0; clear hst; have hc894 : w893.cell? ⟨g835, 3, none⟩ = some (.int .i64 0) := blk_cellv (HS.out.at1) 3 rfl; have hz895 : w893.frozen? ⟨g835, 3, none⟩ = false := blk_fz (HS.out.at1) 3) | ((with_reducible refine gate_store (t := 3) (p := 25) rfl ?_); refine store_event (w1 := (World.setCell w893 ⟨g835, 3, none⟩ (.int .i64 (((Int.tdiv a831 8) % 256) % 2)))) rfl (t := 3) (p := 25) rfl rfl ?hr ?_; (case hr => first | (go_simp; done) | (go_simp; rfl)); intro w896 hst; clear hc894 hz895; have hq0 : Sep (fps []) w [b9 g832 0 0 0 0 0 0 0, b9 g835 (wrap64 (Int.tmod a831 4)) (((Int.tdiv a831 4) % 256) % 2) 0 (((Int.tdiv a831 8) % 256) % 2) 0 0 0] (World.setCell w893 ⟨g835, 3, none⟩ (.int .i64 (((Int.tdiv a831 8) % 256) % 2))) := (HS.out).set1 (l1 := [b9 g832 0 0 0 0 0 0 0]) (l2 := []) 3 (.int .i64 (((Int.tdiv a831 8) % 256) % 2)); replace HS : Aside0 (Sep (fps []) w [b9 g832 0 0 0 0 0 0 0, b9 g835 (wrap64 (Int.tmod a831 4)) (((Int.tdiv a831 4) % 256) % 2) 0 (((Int.tdiv a831 8) % 256) % 2) 0 0 0] w896) := ⟨by rw [hst]; exact hq0⟩; clear hq0; clear hst; have hc897 : w896.cell? ⟨g835, 0, none⟩ = some (.int .i64 (wrap64 (Int.tmod a831 4))) := blk_cellv (HS.out.at1) 0 rfl; have hc898 : w896.cell? ⟨g835, 1, none⟩ = some (.int .i64 (((Int.tdiv a831 4) % 256) % 2)) := blk_cellv (HS.out.at1) 1 rfl; have hc899 : w896.cell? ⟨g835, 2, none⟩ = some (.int .i64 0) := blk_cellv (HS.out.at1) 2 rfl; have hc900 : w896.cell? ⟨g835, 3, none⟩ = some (.int .i64 (((Int.tdiv a831 8) % 256) % 2)) := blk_cellv (HS.out.at1) 3 rfl; have hc901 : w896.cell? ⟨g835, 4, none⟩ = some (.int .i64 0) := blk_cellv (HS.out.at1) 4 rfl; have hc902 : w896.cell? ⟨g835, 5, none⟩ = some (.int .i64 0) := blk_cellv (HS.out.at1) 5 rfl; have hc903 : w896.cell? ⟨g835, 6, none⟩ = some (.int .i64 0) := blk_cellv (HS.out.at1) 6 rfl; have hc904 : w896.cell? ⟨g832, 0, none⟩ = some (.int .i64 0) := blk_cellv (HS.out.at0) 0 rfl; have hz905 : w896.frozen? ⟨g832, 0, none⟩ = false := blk_fz (HS.out.at0) 0; have hc906 : w896.cell? ⟨g832, 1, none⟩ = some (.int .i64 0) := blk_cellv (HS.out.at0) 1 rfl; have hz907 : w896.frozen? ⟨g832, 1, none⟩ = false := blk_fz (HS.out.at0) 1; have hc908 : w896.cell? ⟨g832, 2, none⟩ = some (.int .i64 0) := blk_cellv (HS.out.at0) 2 rfl; have hz909 : w896.frozen? ⟨g832, 2, none⟩ = false := blk_fz (HS.out.at0) 2; have hc910 : w896.cell? ⟨g832, 3, none⟩ = some (.int .i64 0) := blk_cellv (HS.out.at0) 3 rfl; have hz911 : w896.frozen? ⟨g832, 3, none⟩ = false := blk_fz (HS.out.at0) 3; have hc912 : w896.cell? ⟨g832, 4, none⟩ = some (.int .i64 0) := blk_cellv (HS.out.at0) 4 rfl; have hz913 : w896.frozen? ⟨g832, 4, none⟩ = false := blk_fz (HS.out.at0) 4; have hc914 : w896.cell? ⟨g832, 5, none⟩ = some (.int .i64 0) := blk_cellv (HS.out.at0) 5 rfl; have hz915 : w896.frozen? ⟨g832, 5, none⟩ = false := blk_fz (HS.out.at0) 5; have hc916 : w896.cell? ⟨g832, 6, none⟩ = some (.int .i64 0) := blk_cellv (HS.out.at0) 6 rfl; have hz917 : w896.frozen? ⟨g832, 6, none⟩ = false := blk_fz (HS.out.at0) 6) | ((with_reducible refine gate_store (t := 32) (p := 2) rfl ?_); refine store_event (w1 := (World.setCell (World.setCell (World.setCell (World.setCell (World.setCell (World.setCell (World.setCell w896 ⟨g832, 0, none⟩ (.int .i64 (wrap64 (Int.tmod a831 4)))) ⟨g832, 1, none⟩ (.int .i64 (((Int.tdiv a831 4) % 256) % 2))) ⟨g832, 2, none⟩ (.int .i64 0)) ⟨g832, 3, none⟩ (.int .i64 (((Int.tdiv a831 8) % 256) % 2))) ⟨g832, 4, none⟩ (.int .i64 0)) ⟨g832, 5, none⟩ (.int .i64 0)) ⟨g832, 6, none⟩ (.int .i64 0))) rfl (t := 32) (p := 2) rfl rfl ?hr ?_; (case hr => first | (go_simp; done) | (go_simp; rfl)); intro w918 hst; clear hc897 hc898 hc899 hc900 hc901 hc902 hc903 hc904 hz905 hc906 hz907 hc908 hz909 hc910 hz911 hc912 hz913 hc914 hz915 hc916 hz917; replace HS : Aside0 (Sep (fps []) w [b9 g832 (wrap64 (Int.tmod a831 4)) (((Int.tdiv a831 4) % 256) % 2) 0 (((Int.tdiv a831 8) % 256) % 2) 0 0 0, b9 g835 (wrap64 (Int.tmod a831 4)) (((Int.tdiv a831 4) % 256) % 2) 0 (((Int.tdiv a831 8) % 256) % 2) 0 0 0] w918) := ⟨by rw [hst]; exact HS.out.setAll (l1 := []) (l2 := [b9 g835 (wrap64 (Int.tmod a831 4)) (((Int.tdiv a831 4) % 256) % 2) 0 (((Int.tdiv a831 8) % 256) % 2) 0 0 0]) [.int .i64 (wrap64 (Int.tmod a831 4)), .int .i64 (((Int.tdiv a831 4) % 256) % 2), .int .i64 0, .int .i64 (((Int.tdiv a831 8) % 256) % 2), .int .i64 0, .int .i64 0, .int .i64 0] rfl⟩; clear hst; replace HS : Aside0 (Sep (fps []) w [b9 g832 (wrap64 (Int.tmod a831 4)) (((Int.tdiv a831 4) % 256) % 2) 0 (((Int.tdiv a831 8) % 256) % 2) 0 0 0] w918) := ⟨HS.out.sub (.cons_cons _ (.cons _ .slnil))⟩))
      have hc919 : w918.cell? ⟨g832, 0, none⟩ = some (.int .i64 (wrap64 (Int.tmod a831 4))) := blk_cellv (HS.out.at0) 0 rfl
      have hc920 : w918.cell? ⟨g832, 1, none⟩ = some (.int .i64 (((Int.tdiv a831 4) % 256) % 2)) := blk_cellv (HS.out.at0) 1 rfl
      have hc921 : w918.cell? ⟨g832, 2, none⟩ = some (.int .i64 0) := blk_cellv (HS.out.at0) 2 rfl
      have hc922 : w918.cell? ⟨g832, 3, none⟩ = some (.int .i64 (((Int.tdiv a831 8) % 256) % 2)) := blk_cellv (HS.out.at0) 3 rfl
      have hc923 : w918.cell? ⟨g832, 4, none⟩ = some (.int .i64 0) := blk_cellv (HS.out.at0) 4 rfl
      have hc924 : w918.cell? ⟨g832, 5, none⟩ = some (.int .i64 0) := blk_cellv (HS.out.at0) 5 rfl
      have hc925 : w918.cell? ⟨g832, 6, none⟩ = some (.int .i64 0) := blk_cellv (HS.out.at0) 6 rfl
      refine bodyPost_ret (v := .agg #[.int .i64 (wrap64 (Int.tmod a831 4)), .int .i64 (((Int.tdiv a831 4) % 256) % 2), .int .i64 0, .int .i64 (((Int.tdiv a831 8) % 256) % 2), .int .i64 0, .int .i64 0, .int .i64 0]) (by simp [results, Tryd.results78, go_sem, hc919, hc920, hc921, hc922, hc923, hc924, hc925]) rfl ?_
      rw [← some_eq H]
      exact ⟨(by first | rfl | (simp [IntKind.wrap_u32]; done)), HS.out.sub (.cons _ .slnil)⟩
    · replace H := if_no c890 H
      have c890b0 : ((wrap64 (Int.tmod a831 4)) == 2) = false := beq_eq_false_iff_ne.mpr c890
      have c890b1 : ((wrap64 (Int.tmod a831 4)) != 2) = true := bne_iff_ne.mpr c890
      clear c890
      go_wp2_with (first | ((with_reducible refine gate_dst (N := 2) rfl ?_); refine box_on ?hg (N := 2) ?hd (cs := #[.int .i64 0, .int .i64 0, .int .i64 0, .int .i64 0, .int .i64 0, .int .i64 0, .int .i64 0]) (t := 32) ?hr ?_; (case hd => rfl); (case hg => rfl); (case hr => first | (go_simp; done) | (go_simp; rfl)); intro g832 hg w833 hbox hb; replace HS : Aside0 (Sep (fps []) w [b9 g832 0 0 0 0 0 0 0] w833) := ⟨HS.out.box hg hbox hb⟩; clear hg hbox hb) | ((with_reducible refine gate_dst (N := 3) rfl ?_); refine box_on ?hg (N := 3) ?hd (cs := #[.int .i64 0, .int .i64 0, .int .i64 0, .int .i64 0, .int .i64 0, .int .i64 0, .int .i64 0]) (t := 32) ?hr ?_; (case hd => rfl); (case hg => rfl); (case hr => first | (go_simp; done) | (go_simp; rfl)); intro g835 hg w836 hbox hb; replace HS : Aside0 (Sep (fps []) w [b9 g832 0 0 0 0 0 0 0, b9 g835 0 0 0 0 0 0 0] w836) := ⟨HS.out.box hg hbox hb⟩; clear hg hbox hb; have hc838 : w836.cell? ⟨g835, 0, none⟩ = some (.int .i64 0) := blk_cellv (HS.out.at1) 0 rfl; have hz839 : w836.frozen? ⟨g835, 0, none⟩ = false := blk_fz (HS.out.at1) 0; have hc840 : w836.cell? ⟨g835, 1, none⟩ = some (.int .i64 0) := blk_cellv (HS.out.at1) 1 rfl; have hz841 : w836.frozen? ⟨g835, 1, none⟩ = false := blk_fz (HS.out.at1) 1; have hc842 : w836.cell? ⟨g835, 2, none⟩ = some (.int .i64 0) := blk_cellv (HS.out.at1) 2 rfl; have hz843 : w836.frozen? ⟨g835, 2, none⟩ = false := blk_fz (HS.out.at1) 2; have hc844 : w836.cell? ⟨g835, 3, none⟩ = some (.int .i64 0) := blk_cellv (HS.out.at1) 3 rfl; have hz845 : w836.frozen? ⟨g835, 3, none⟩ = false := blk_fz (HS.out.at1) 3; have hc846 : w836.cell? ⟨g835, 4, none⟩ = some (.int .i64 0) := blk_cellv (HS.out.at1) 4 rfl; have hz847 : w836.frozen? ⟨g835, 4, none⟩ = false := blk_fz (HS.out.at1) 4; have hc848 : w836.cell? ⟨g835, 5, none⟩ = some (.int .i64 0) := blk_cellv (HS.out.at1) 5 rfl; have hz849 : w836.frozen? ⟨g835, 5, none⟩ = false := blk_fz (HS.out.at1) 5; have hc850 : w836.cell? ⟨g835, 6, none⟩ = some (.int .i64 0) := blk_cellv (HS.out.at1) 6 rfl; have hz851 : w836.frozen? ⟨g835, 6, none⟩ = false := blk_fz (HS.out.at1) 6) | ((with_reducible refine gate_store (t := 32) (p := 3) rfl ?_); refine store_event (w1 := (World.setCell (World.setCell (World.setCell (World.setCell (World.setCell (World.setCell (World.setCell w836 ⟨g835, 0, none⟩ (.int .i64 (wrap64 (Int.tmod a831 4)))) ⟨g835, 1, none⟩ (.int .i64 0)) ⟨g835, 2, none⟩ (.int .i64 0)) ⟨g835, 3, none⟩ (.int .i64 0)) ⟨g835, 4, none⟩ (.int .i64 0)) ⟨g835, 5, none⟩ (.int .i64 0)) ⟨g835, 6, none⟩ (.int .i64 0))) rfl (t := 32) (p := 3) rfl rfl ?hr ?_; (case hr => first | (go_simp; done) | (go_simp; rfl)); intro w852 hst; clear hc838 hz839 hc840 hz841 hc842 hz843 hc844 hz845 hc846 hz847 hc848 hz849 hc850 hz851; replace HS : Aside0 (Sep (fps []) w [b9 g832 0 0 0 0 0 0 0, b9 g835 (wrap64 (Int.tmod a831 4)) 0 0 0 0 0 0] w852) := ⟨by rw [hst]; exact HS.out.setAll (l1 := [b9 g832 0 0 0 0 0 0 0]) (l2 := []) [.int .i64 (wrap64 (Int.tmod a831 4)), .int .i64 0, .int .i64 0, .int .i64 0, .int .i64 0, .int .i64 0, .int .i64 0] rfl⟩; clear hst; have hc853 : w852.cell? ⟨g835, 0, none⟩ = some (.int .i64 (wrap64 (Int.tmod a831 4))) := blk_cellv (HS.out.at1) 0 rfl; have hc926 : w852.cell? ⟨g835, 1, none⟩ = some (.int .i64 0) := blk_cellv (HS.out.at1) 1 rfl; have hc927 : w852.cell? ⟨g835, 2, none⟩ = some (.int .i64 0) := blk_cellv (HS.out.at1) 2 rfl; have hc928 : w852.cell? ⟨g835, 3, none⟩ = some (.int .i64 0) := blk_cellv (HS.out.at1) 3 rfl; have hc929 : w852.cell? ⟨g835, 4, none⟩ = some (.int .i64 0) := blk_cellv (HS.out.at1) 4 rfl; have hc930 : w852.cell? ⟨g835, 5, none⟩ = some (.int .i64 0) := blk_cellv (HS.out.at1) 5 rfl; have hc931 : w852.cell? ⟨g835, 6, none⟩ = some (.int .i64 0) := blk_cellv (HS.out.at1) 6 rfl; have hc932 : w852.cell? ⟨g832, 0, none⟩ = some (.int .i64 0) := blk_cellv (HS.out.at0) 0 rfl; have hz933 : w852.frozen? ⟨g832, 0, none⟩ = false := blk_fz (HS.out.at0) 0; have hc934 : w852.cell? ⟨g832, 1, none⟩ = some (.int .i64 0) := blk_cellv (HS.out.at0) 1 rfl; have hz935 : w852.frozen? ⟨g832, 1, none⟩ = false := blk_fz (HS.out.at0) 1; have hc936 : w852.cell? ⟨g832, 2, none⟩ = some (.int .i64 0) := blk_cellv (HS.out.at0) 2 rfl; have hz937 : w852.frozen? ⟨g832, 2, none⟩ = false := blk_fz (HS.out.at0) 2; have hc938 : w852.cell? ⟨g832, 3, none⟩ = some (.int .i64 0) := blk_cellv (HS.out.at0) 3 rfl; have hz939 : w852.frozen? ⟨g832, 3, none⟩ = false := blk_fz (HS.out.at0) 3; have hc940 : w852.cell? ⟨g832, 4, none⟩ = some (.int .i64 0) := blk_cellv (HS.out.at0) 4 rfl; have hz941 : w852.frozen? ⟨g832, 4, none⟩ = false := blk_fz (HS.out.at0) 4; have hc942 : w852.cell? ⟨g832, 5, none⟩ = some (.int .i64 0) := blk_cellv (HS.out.at0) 5 rfl; have hz943 : w852.frozen? ⟨g832, 5, none⟩ = false := blk_fz (HS.out.at0) 5; have hc944 : w852.cell? ⟨g832, 6, none⟩ = some (.int .i64 0) := blk_cellv (HS.out.at0) 6 rfl; have hz945 : w852.frozen? ⟨g832, 6, none⟩ = false := blk_fz (HS.out.at0) 6) | ((with_reducible refine gate_store (t := 32) (p := 2) rfl ?_); refine store_event (w1 := (World.setCell (World.setCell (World.setCell (World.setCell (World.setCell (World.setCell (World.setCell w852 ⟨g832, 0, none⟩ (.int .i64 (wrap64 (Int.tmod a831 4)))) ⟨g832, 1, none⟩ (.int .i64 0)) ⟨g832, 2, none⟩ (.int .i64 0)) ⟨g832, 3, none⟩ (.int .i64 0)) ⟨g832, 4, none⟩ (.int .i64 0)) ⟨g832, 5, none⟩ (.int .i64 0)) ⟨g832, 6, none⟩ (.int .i64 0))) rfl (t := 32) (p := 2) rfl rfl ?hr ?_; (case hr => first | (go_simp; done) | (go_simp; rfl)); intro w946 hst; clear hc853 hc926 hc927 hc928 hc929 hc930 hc931 hc932 hz933 hc934 hz935 hc936 hz937 hc938 hz939 hc940 hz941 hc942 hz943 hc944 hz945; replace HS : Aside0 (Sep (fps []) w [b9 g832 (wrap64 (Int.tmod a831 4)) 0 0 0 0 0 0, b9 g835 (wrap64 (Int.tmod a831 4)) 0 0 0 0 0 0] w946) := ⟨by rw [hst]; exact HS.out.setAll (l1 := []) (l2 := [b9 g835 (wrap64 (Int.tmod a831 4)) 0 0 0 0 0 0]) [.int .i64 (wrap64 (Int.tmod a831 4)), .int .i64 0, .int .i64 0, .int .i64 0, .int .i64 0, .int .i64 0, .int .i64 0] rfl⟩; clear hst; replace HS : Aside0 (Sep (fps []) w [b9 g832 (wrap64 (Int.tmod a831 4)) 0 0 0 0 0 0] w946) := ⟨HS.out.sub (.cons_cons _ (.cons _ .slnil))⟩))
      have hc947 : w946.cell? ⟨g832, 0, none⟩ = some (.int .i64 (wrap64 (Int.tmod a831 4))) := blk_cellv (HS.out.at0) 0 rfl
      have hc948 : w946.cell? ⟨g832, 1, none⟩ = some (.int .i64 0) := blk_cellv (HS.out.at0) 1 rfl
      have hc949 : w946.cell? ⟨g832, 2, none⟩ = some (.int .i64 0) := blk_cellv (HS.out.at0) 2 rfl
      have hc950 : w946.cell? ⟨g832, 3, none⟩ = some (.int .i64 0) := blk_cellv (HS.out.at0) 3 rfl
      have hc951 : w946.cell? ⟨g832, 4, none⟩ = some (.int .i64 0) := blk_cellv (HS.out.at0) 4 rfl
      have hc952 : w946.cell? ⟨g832, 5, none⟩ = some (.int .i64 0) := blk_cellv (HS.out.at0) 5 rfl
      have hc953 : w946.cell? ⟨g832, 6, none⟩ = some (.int .i64 0) := blk_cellv (HS.out.at0) 6 rfl
      refine bodyPost_ret (v := .agg #[.int .i64 (wrap64 (Int.tmod a831 4)), .int .i64 0, .int .i64 0, .int .i64 0, .int .i64 0, .int .i64 0, .int .i64 0]) (by simp [results, Tryd.results78, go_sem, hc947, hc948, hc949, hc950, hc951, hc952, hc953]) rfl ?_
      rw [← some_eq H]
      exact ⟨(by first | rfl | (simp [IntKind.wrap_u32]; done)), HS.out.sub (.cons _ .slnil)⟩

set_option maxHeartbeats 30000000 in
set_option maxRecDepth 100000 in
theorem quitrentref06_Pack.calls (a957 : Int) (a958 : Int) (a959 : Int) (a960 : Int) (a961 : Int) (a962 : Int) (a963 : Int) (r : Int) (w : World)  (HGl0 : Aside0 (Gl 0 #[.int .i64 0, .int .i64 0, .int .i64 0, .int .i64 0, .int .i64 0] (fps []) w)) (HS : Aside0 (Sep (fps []) w [] w)) (H : Aside0 (quitrentref06_Pack.f a957 a958 a959 a960 a961 a962 a963 = some r)) :
    Calls Tryd.prog 77 #[.agg #[.int .i64 a957, .int .i64 a958, .int .i64 a959, .int .i64 a960, .int .i64 a961, .int .i64 a962, .int .i64 a963]] w fun e w' => e = .returned (.int .u32 r) ∧ Sep (fps []) w [] w' := by
  unfold quitrentref06_Pack.f at H
  go_enter Tryd.func77, Tryd.ntmps77
  go_wp2_with (first | ((with_reducible refine gate_dst (N := 1) rfl ?_); refine box_on ?hg (N := 1) ?hd (cs := #[.int .i64 a957, .int .i64 a958, .int .i64 a959, .int .i64 a960, .int .i64 a961, .int .i64 a962, .int .i64 a963]) (t := 32) ?hr ?_; (case hd => rfl); (case hg => rfl); (case hr => first | (go_simp; done) | (go_simp; rfl)); intro g964 hg w965 hbox hb; replace HS : Aside0 (Sep (fps []) w [b9 g964 a957 a958 a959 a960 a961 a962 a963] w965) := ⟨HS.out.box hg hbox hb⟩; clear hg hbox hb; have hc967 : w965.cell? ⟨g964, 0, none⟩ = some (.int .i64 a957) := blk_cellv (HS.out.at0) 0 rfl; have hc968 : w965.cell? ⟨g964, 1, none⟩ = some (.int .i64 a958) := blk_cellv (HS.out.at0) 1 rfl; have hc969 : w965.cell? ⟨g964, 2, none⟩ = some (.int .i64 a959) := blk_cellv (HS.out.at0) 2 rfl; have hc970 : w965.cell? ⟨g964, 3, none⟩ = some (.int .i64 a960) := blk_cellv (HS.out.at0) 3 rfl; have hc971 : w965.cell? ⟨g964, 4, none⟩ = some (.int .i64 a961) := blk_cellv (HS.out.at0) 4 rfl; have hc972 : w965.cell? ⟨g964, 5, none⟩ = some (.int .i64 a962) := blk_cellv (HS.out.at0) 5 rfl; have hc973 : w965.cell? ⟨g964, 6, none⟩ = some (.int .i64 a963) := blk_cellv (HS.out.at0) 6 rfl; replace HS : Aside0 (Sep (fps []) w [] w965) := ⟨HS.out.sub (.cons _ .slnil)⟩))
  clear hc967 hc968 hc969 hc970 hc971 hc972 hc973
  go_ret
  rw [← some_eq H]
  exact ⟨(by first | rfl | (simp [IntKind.wrap_u32]; done)), HS.out⟩

set_option maxHeartbeats 30000000 in
set_option maxRecDepth 100000 in
theorem ground_Ground_all.calls (l1000 : List Int) (a1005 : Int) (a1006 : Int) (a1007 : Int) (a1008 : Int) (a1009 : Int) (g996 : Nat) (g998 : Nat) (A1001 : Option Addr) (m1002 : Nat) (n1003 : Nat) (r : Unit) (w : World)  (HGl0 : Aside0 (Gl 0 #[.int .i64 0, .int .i64 0, .int .i64 0, .int .i64 0, .int .i64 0] (fps [b8 g996 g998 a1006 a1007 a1008 a1009, b7 g998 A1001 m1002 n1003 a1005, r6 A1001 m1002 n1003 l1000]) w)) (HS : Aside0 (Sep (fps [b8 g996 g998 a1006 a1007 a1008 a1009, b7 g998 A1001 m1002 n1003 a1005, r6 A1001 m1002 n1003 l1000]) w [b8 g996 g998 a1006 a1007 a1008 a1009, b7 g998 A1001 m1002 n1003 a1005, r6 A1001 m1002 n1003 l1000] w)) (H : Aside0 (ground_Ground_all.f l1000 a1005 a1006 a1007 a1008 a1009 = some r)) :
    Calls Tryd.prog 70 #[.pointer (some ⟨g996, 0, none⟩)] w fun e w' => e = .returned (.pointer (some ⟨g998, 0, none⟩)) ∧ Sep (fps [b8 g996 g998 a1006 a1007 a1008 a1009, b7 g998 A1001 m1002 n1003 a1005, r6 A1001 m1002 n1003 l1000]) w [b8 g996 g998 a1006 a1007 a1008 a1009, b7 g998 A1001 m1002 n1003 a1005, r6 A1001 m1002 n1003 l1000] w' := by
  generalize (fps [b8 g996 g998 a1006 a1007 a1008 a1009, b7 g998 A1001 m1002 n1003 a1005, r6 A1001 m1002 n1003 l1000]) = FF at HS HGl0 ⊢
  obtain rfl := (row_len (HS.out.at2)).symm
  unfold ground_Ground_all.f at H
  go_enter Tryd.func70, Tryd.ntmps70
  have hc1010 : w.cell? ⟨g996, 0, none⟩ = some (.pointer (some ⟨g998, 0, none⟩)) := blk_cellv (HS.out.at0) 0 rfl
  go_wp2_with fail
  clear hc1010
  go_ret
  clear H
  exact ⟨(by first | rfl | (simp [IntKind.wrap_u32]; done)), HS.out⟩

set_option maxHeartbeats 30000000 in
set_option maxRecDepth 100000 in
theorem ground_Ground_Conf.calls (l1036 : List Int) (a1041 : Int) (a1042 : Int) (a1043 : Int) (a1044 : Int) (a1045 : Int) (g1032 : Nat) (g1034 : Nat) (A1037 : Option Addr) (m1038 : Nat) (n1039 : Nat) (r : Int × Int × Int × Int) (w : World)  (HGl0 : Aside0 (Gl 0 #[.int .i64 0, .int .i64 0, .int .i64 0, .int .i64 0, .int .i64 0] (fps [b8 g1032 g1034 a1042 a1043 a1044 a1045, b7 g1034 A1037 m1038 n1039 a1041, r6 A1037 m1038 n1039 l1036]) w)) (HS : Aside0 (Sep (fps [b8 g1032 g1034 a1042 a1043 a1044 a1045, b7 g1034 A1037 m1038 n1039 a1041, r6 A1037 m1038 n1039 l1036]) w [b8 g1032 g1034 a1042 a1043 a1044 a1045, b7 g1034 A1037 m1038 n1039 a1041, r6 A1037 m1038 n1039 l1036] w)) (H : Aside0 (ground_Ground_Conf.f l1036 a1041 a1042 a1043 a1044 a1045 = some r)) :
    Calls Tryd.prog 86 #[.pointer (some ⟨g1032, 0, none⟩)] w fun e w' => e = .returned (.agg #[.int .i64 r.1, .int .i64 r.2.1, .int .i64 r.2.2.1, .int .i64 r.2.2.2]) ∧ Sep (fps [b8 g1032 g1034 a1042 a1043 a1044 a1045, b7 g1034 A1037 m1038 n1039 a1041, r6 A1037 m1038 n1039 l1036]) w [b8 g1032 g1034 a1042 a1043 a1044 a1045, b7 g1034 A1037 m1038 n1039 a1041, r6 A1037 m1038 n1039 l1036] w' := by
  generalize (fps [b8 g1032 g1034 a1042 a1043 a1044 a1045, b7 g1034 A1037 m1038 n1039 a1041, r6 A1037 m1038 n1039 l1036]) = FF at HS HGl0 ⊢
  obtain rfl := (row_len (HS.out.at2)).symm
  unfold ground_Ground_Conf.f at H
  go_enter Tryd.func86, Tryd.ntmps86
  go_wp2_with (first | ((with_reducible refine gate_dst (N := 2) rfl ?_); refine box_on ?hg (N := 2) ?hd (cs := #[.int .i64 0, .int .i64 0, .int .i64 0, .int .i64 0]) (t := 30) ?hr ?_; (case hd => rfl); (case hg => rfl); (case hr => first | (go_simp; done) | (go_simp; rfl)); intro g1046 hg w1047 hbox hb; replace HS : Aside0 (Sep FF w [b8 g1032 g1034 a1042 a1043 a1044 a1045, b7 g1034 A1037 l1036.length n1039 a1041, r6 A1037 l1036.length n1039 l1036, b2 g1046 0 0 0 0] w1047) := ⟨HS.out.box hg hbox hb⟩; clear hg hbox hb; have hc1049 : w1047.cell? ⟨g1032, 1, none⟩ = some (.int .i64 a1042) := blk_cellv (HS.out.at0) 1 rfl; have hc1050 : w1047.cell? ⟨g1032, 2, none⟩ = some (.int .i64 a1043) := blk_cellv (HS.out.at0) 2 rfl; have hc1051 : w1047.cell? ⟨g1032, 3, none⟩ = some (.int .i64 a1044) := blk_cellv (HS.out.at0) 3 rfl; have hc1052 : w1047.cell? ⟨g1032, 4, none⟩ = some (.int .i64 a1045) := blk_cellv (HS.out.at0) 4 rfl; have hc1053 : w1047.cell? ⟨g1046, 0, none⟩ = some (.int .i64 0) := blk_cellv (HS.out.at3) 0 rfl; have hz1054 : w1047.frozen? ⟨g1046, 0, none⟩ = false := blk_fz (HS.out.at3) 0; have hc1055 : w1047.cell? ⟨g1046, 1, none⟩ = some (.int .i64 0) := blk_cellv (HS.out.at3) 1 rfl; have hz1056 : w1047.frozen? ⟨g1046, 1, none⟩ = false := blk_fz (HS.out.at3) 1; have hc1057 : w1047.cell? ⟨g1046, 2, none⟩ = some (.int .i64 0) := blk_cellv (HS.out.at3) 2 rfl; have hz1058 : w1047.frozen? ⟨g1046, 2, none⟩ = false := blk_fz (HS.out.at3) 2; have hc1059 : w1047.cell? ⟨g1046, 3, none⟩ = some (.int .i64 0) := blk_cellv (HS.out.at3) 3 rfl; have hz1060 : w1047.frozen? ⟨g1046, 3, none⟩ = false := blk_fz (HS.out.at3) 3) | ((with_reducible refine gate_store (t := 30) (p := 2) rfl ?_); refine store_event (w1 := (World.setCell (World.setCell (World.setCell (World.setCell w1047 ⟨g1046, 0, none⟩ (.int .i64 a1042)) ⟨g1046, 1, none⟩ (.int .i64 a1043)) ⟨g1046, 2, none⟩ (.int .i64 a1044)) ⟨g1046, 3, none⟩ (.int .i64 a1045))) rfl (t := 30) (p := 2) rfl rfl ?hr ?_; (case hr => first | (go_simp; done) | (go_simp; rfl)); intro w1061 hst; clear hc1049 hc1050 hc1051 hc1052 hc1053 hz1054 hc1055 hz1056 hc1057 hz1058 hc1059 hz1060; replace HS : Aside0 (Sep FF w [b8 g1032 g1034 a1042 a1043 a1044 a1045, b7 g1034 A1037 l1036.length n1039 a1041, r6 A1037 l1036.length n1039 l1036, b2 g1046 a1042 a1043 a1044 a1045] w1061) := ⟨by rw [hst]; exact HS.out.setAll (l1 := [b8 g1032 g1034 a1042 a1043 a1044 a1045, b7 g1034 A1037 l1036.length n1039 a1041, r6 A1037 l1036.length n1039 l1036]) (l2 := []) [.int .i64 a1042, .int .i64 a1043, .int .i64 a1044, .int .i64 a1045] rfl⟩; clear hst))
  have hc1062 : w1061.cell? ⟨g1046, 0, none⟩ = some (.int .i64 a1042) := blk_cellv (HS.out.at3) 0 rfl
  have hc1063 : w1061.cell? ⟨g1046, 1, none⟩ = some (.int .i64 a1043) := blk_cellv (HS.out.at3) 1 rfl
  have hc1064 : w1061.cell? ⟨g1046, 2, none⟩ = some (.int .i64 a1044) := blk_cellv (HS.out.at3) 2 rfl
  have hc1065 : w1061.cell? ⟨g1046, 3, none⟩ = some (.int .i64 a1045) := blk_cellv (HS.out.at3) 3 rfl
  refine bodyPost_ret (v := .agg #[.int .i64 a1042, .int .i64 a1043, .int .i64 a1044, .int .i64 a1045]) (by simp [results, Tryd.results86, go_sem, hc1062, hc1063, hc1064, hc1065]) rfl ?_
  rw [← some_eq H]
  exact ⟨(by first | rfl | (simp [IntKind.wrap_u32]; done)), HS.out.sub (.cons_cons _ (.cons_cons _ (.cons_cons _ (.cons _ .slnil))))⟩

set_option maxHeartbeats 30000000 in
set_option maxRecDepth 100000 in
theorem ground_within.calls (a1082 : Int) (a1083 : Int) (a1084 : Int) (r : Int) (w : World)  (HGl0 : Aside0 (Gl 0 #[.int .i64 0, .int .i64 0, .int .i64 0, .int .i64 0, .int .i64 0] (fps []) w)) (HS : Aside0 (Sep (fps []) w [] w)) (H : Aside0 (ground_within.f a1082 a1083 a1084 = some r)) :
    Calls Tryd.prog 129 #[.int .i64 a1082, .int .i64 a1083, .int .i64 a1084] w fun e w' => e = .returned (.int .i64 r) ∧ Sep (fps []) w [] w' := by
  unfold ground_within.f at H
  go_enter Tryd.func129, Tryd.ntmps129
  by_cases c1085 : a1082 < 0
  · replace H := if_yes c1085 H
    have c1085b0 : decide (a1082 < 0) = true := decide_eq_true c1085
    clear c1085
    go_wp2_with fail
    go_ret
    rw [← some_eq H]
    exact ⟨(by first | rfl | (simp [IntKind.wrap_u32]; done)), HS.out⟩
  · replace H := if_no c1085 H
    have c1085b0 : decide (a1082 < 0) = false := decide_eq_false c1085
    clear c1085
    by_cases c1086 : a1082 ≥ a1083
    · replace H := if_yes c1086 H
      have c1086b0 : decide (a1083 ≤ a1082) = true := decide_eq_true c1086
      clear c1086
      go_wp2_with fail
      go_ret
      rw [← some_eq H]
      exact ⟨(by first | rfl | (simp [IntKind.wrap_u32]; done)), HS.out⟩
    · replace H := if_no c1086 H
      have c1086b0 : decide (a1083 ≤ a1082) = false := decide_eq_false c1086
      clear c1086
      go_wp2_with fail
      go_ret
      rw [← some_eq H]
      exact ⟨(by first | rfl | (simp [IntKind.wrap_u32]; done)), HS.out⟩

set_option maxHeartbeats 30000000 in
set_option maxRecDepth 100000 in
theorem ground_Ground_word.calls (l1019 : List Int) (a1024 : Int) (a1025 : Int) (a1026 : Int) (a1027 : Int) (a1028 : Int) (a1029 : Int) (a1030 : Int) (g1015 : Nat) (g1017 : Nat) (A1020 : Option Addr) (m1021 : Nat) (n1022 : Nat) (r : Int) (w : World)  (HGl0 : Aside0 (Gl 0 #[.int .i64 0, .int .i64 0, .int .i64 0, .int .i64 0, .int .i64 0] (fps [b8 g1015 g1017 a1025 a1026 a1027 a1028, b7 g1017 A1020 m1021 n1022 a1024, r6 A1020 m1021 n1022 l1019]) w)) (HS : Aside0 (Sep (fps [b8 g1015 g1017 a1025 a1026 a1027 a1028, b7 g1017 A1020 m1021 n1022 a1024, r6 A1020 m1021 n1022 l1019]) w [b8 g1015 g1017 a1025 a1026 a1027 a1028, b7 g1017 A1020 m1021 n1022 a1024, r6 A1020 m1021 n1022 l1019] w)) (H : Aside0 (ground_Ground_word.f l1019 a1024 a1025 a1026 a1027 a1028 a1029 a1030 = some r)) :
    Calls Tryd.prog 72 #[.pointer (some ⟨g1015, 0, none⟩), .int .i64 a1029, .int .i64 a1030] w fun e w' => e = .returned (.int .i64 r) ∧ Sep (fps [b8 g1015 g1017 a1025 a1026 a1027 a1028, b7 g1017 A1020 m1021 n1022 a1024, r6 A1020 m1021 n1022 l1019]) w [b8 g1015 g1017 a1025 a1026 a1027 a1028, b7 g1017 A1020 m1021 n1022 a1024, r6 A1020 m1021 n1022 l1019] w' := by
  generalize (fps [b8 g1015 g1017 a1025 a1026 a1027 a1028, b7 g1017 A1020 m1021 n1022 a1024, r6 A1020 m1021 n1022 l1019]) = FF at HS HGl0 ⊢
  obtain rfl := (row_len (HS.out.at2)).symm
  unfold ground_Ground_word.f at H
  go_enter Tryd.func72, Tryd.ntmps72
  go_wp2_with fail
  obtain ⟨t1066, HA1067, H⟩ := bind_some H
  refine (ground_Ground_Conf.calls l1019 a1024 a1025 a1026 a1027 a1028 g1015 g1017 A1020 l1019.length n1022 t1066 _ ⟨HGl0.out.pass HS.out⟩ ⟨HS.out.begin⟩ HA1067).mono ?_
  rintro e_ w1068 ⟨rfl, hS⟩
  replace HS : Aside0 (Sep FF w [b8 g1015 g1017 a1025 a1026 a1027 a1028, b7 g1017 A1020 l1019.length n1022 a1024, r6 A1020 l1019.length n1022 l1019] w1068) := ⟨HS.out.call hS⟩
  clear hS
  go_wp2_with (first | ((with_reducible refine gate_dst (N := 7) rfl ?_); refine box_on ?hg (N := 7) ?hd (cs := #[.int .i64 0, .int .i64 0, .int .i64 0, .int .i64 0]) (t := 30) ?hr ?_; (case hd => rfl); (case hg => rfl); (case hr => first | (go_simp; done) | (go_simp; rfl)); intro g1069 hg w1070 hbox hb; replace HS : Aside0 (Sep FF w [b8 g1015 g1017 a1025 a1026 a1027 a1028, b7 g1017 A1020 l1019.length n1022 a1024, r6 A1020 l1019.length n1022 l1019, b2 g1069 0 0 0 0] w1070) := ⟨HS.out.box hg hbox hb⟩; clear hg hbox hb; have hc1072 : w1070.cell? ⟨g1069, 0, none⟩ = some (.int .i64 0) := blk_cellv (HS.out.at3) 0 rfl; have hz1073 : w1070.frozen? ⟨g1069, 0, none⟩ = false := blk_fz (HS.out.at3) 0; have hc1074 : w1070.cell? ⟨g1069, 1, none⟩ = some (.int .i64 0) := blk_cellv (HS.out.at3) 1 rfl; have hz1075 : w1070.frozen? ⟨g1069, 1, none⟩ = false := blk_fz (HS.out.at3) 1; have hc1076 : w1070.cell? ⟨g1069, 2, none⟩ = some (.int .i64 0) := blk_cellv (HS.out.at3) 2 rfl; have hz1077 : w1070.frozen? ⟨g1069, 2, none⟩ = false := blk_fz (HS.out.at3) 2; have hc1078 : w1070.cell? ⟨g1069, 3, none⟩ = some (.int .i64 0) := blk_cellv (HS.out.at3) 3 rfl; have hz1079 : w1070.frozen? ⟨g1069, 3, none⟩ = false := blk_fz (HS.out.at3) 3) | ((with_reducible refine gate_store (t := 30) (p := 7) rfl ?_); refine store_event (w1 := (World.setCell (World.setCell (World.setCell (World.setCell w1070 ⟨g1069, 0, none⟩ (.int .i64 t1066.1)) ⟨g1069, 1, none⟩ (.int .i64 t1066.2.1)) ⟨g1069, 2, none⟩ (.int .i64 t1066.2.2.1)) ⟨g1069, 3, none⟩ (.int .i64 t1066.2.2.2))) rfl (t := 30) (p := 7) rfl rfl ?hr ?_; (case hr => first | (go_simp; done) | (go_simp; rfl)); intro w1080 hst; clear hc1072 hz1073 hc1074 hz1075 hc1076 hz1077 hc1078 hz1079; replace HS : Aside0 (Sep FF w [b8 g1015 g1017 a1025 a1026 a1027 a1028, b7 g1017 A1020 l1019.length n1022 a1024, r6 A1020 l1019.length n1022 l1019, b2 g1069 t1066.1 t1066.2.1 t1066.2.2.1 t1066.2.2.2] w1080) := ⟨by rw [hst]; exact HS.out.setAll (l1 := [b8 g1015 g1017 a1025 a1026 a1027 a1028, b7 g1017 A1020 l1019.length n1022 a1024, r6 A1020 l1019.length n1022 l1019]) (l2 := []) [.int .i64 t1066.1, .int .i64 t1066.2.1, .int .i64 t1066.2.2.1, .int .i64 t1066.2.2.2] rfl⟩; clear hst; have hc1081 : w1080.cell? ⟨g1069, 0, none⟩ = some (.int .i64 t1066.1) := blk_cellv (HS.out.at3) 0 rfl))
  clear hc1081
  obtain ⟨t1087, HA1088, H⟩ := bind_some H
  refine (ground_within.calls a1029 t1066.1 0 t1087 _ ⟨HGl0.out.pass (l := []) HS.out⟩ ⟨Sep.start _⟩ HA1088).mono ?_
  rintro e_ w1089 ⟨rfl, hS⟩
  replace HS : Aside0 (Sep FF w [b8 g1015 g1017 a1025 a1026 a1027 a1028, b7 g1017 A1020 l1019.length n1022 a1024, r6 A1020 l1019.length n1022 l1019, b2 g1069 t1066.1 t1066.2.1 t1066.2.2.1 t1066.2.2.2] w1089) := ⟨HS.out.call hS⟩
  clear hS
  by_cases c1090 : t1087 = (-1)
  · replace H := if_yes c1090 H
    have c1090b0 : (t1087 == (-1)) = true := beq_iff_eq.mpr c1090
    have c1090b1 : (t1087 != (-1)) = false := bne_eq_false_iff_eq.mpr c1090
    clear c1090
    replace HS : Aside0 (Sep FF w [b8 g1015 g1017 a1025 a1026 a1027 a1028, b7 g1017 A1020 l1019.length n1022 a1024, r6 A1020 l1019.length n1022 l1019] w1089) := ⟨HS.out.sub (.cons_cons _ (.cons_cons _ (.cons_cons _ (.cons _ .slnil))))⟩
    go_wp2_with fail
    go_ret
    rw [← some_eq H]
    exact ⟨(by first | rfl | (simp [IntKind.wrap_u32]; done)), HS.out⟩
  · replace H := if_no c1090 H
    have c1090b0 : (t1087 == (-1)) = false := beq_eq_false_iff_ne.mpr c1090
    have c1090b1 : (t1087 != (-1)) = true := bne_iff_ne.mpr c1090
    clear c1090
    have hc1091 : w1089.cell? ⟨g1069, 1, none⟩ = some (.int .i64 t1066.2.1) := blk_cellv (HS.out.at3) 1 rfl
    have hc1092 : w1089.cell? ⟨g1069, 2, none⟩ = some (.int .i64 t1066.2.2.1) := blk_cellv (HS.out.at3) 2 rfl
    go_wp2_with fail
    clear hc1091 hc1092
    obtain ⟨t1093, HA1094, H⟩ := bind_some H
    refine (ground_within.calls a1030 t1066.2.1 (wrap64 ((wrap64 (24 + t1066.2.2.1)) + (wrap64 (a1029 * t1066.2.1)))) t1093 _ ⟨HGl0.out.pass (l := []) HS.out⟩ ⟨Sep.start _⟩ HA1094).mono ?_
    rintro e_ w1095 ⟨rfl, hS⟩
    replace HS : Aside0 (Sep FF w [b8 g1015 g1017 a1025 a1026 a1027 a1028, b7 g1017 A1020 l1019.length n1022 a1024, r6 A1020 l1019.length n1022 l1019, b2 g1069 t1066.1 t1066.2.1 t1066.2.2.1 t1066.2.2.2] w1095) := ⟨HS.out.call hS⟩
    clear hS
    replace HS : Aside0 (Sep FF w [b8 g1015 g1017 a1025 a1026 a1027 a1028, b7 g1017 A1020 l1019.length n1022 a1024, r6 A1020 l1019.length n1022 l1019] w1095) := ⟨HS.out.sub (.cons_cons _ (.cons_cons _ (.cons_cons _ (.cons _ .slnil))))⟩
    go_wp2_with fail
    go_ret
    rw [← some_eq H]
    exact ⟨(by first | rfl | (simp [IntKind.wrap_u32]; done)), HS.out⟩

set_option maxHeartbeats 30000000 in
set_option maxRecDepth 100000 in
theorem store_Store_has.calls (l1113 : List Int) (a1118 : Int) (a1119 : Int) (g1111 : Nat) (A1114 : Option Addr) (m1115 : Nat) (n1116 : Nat) (r : Bool) (w : World)  (HGl0 : Aside0 (Gl 0 #[.int .i64 0, .int .i64 0, .int .i64 0, .int .i64 0, .int .i64 0] (fps [b7 g1111 A1114 m1115 n1116 a1118, r6 A1114 m1115 n1116 l1113]) w)) (HS : Aside0 (Sep (fps [b7 g1111 A1114 m1115 n1116 a1118, r6 A1114 m1115 n1116 l1113]) w [b7 g1111 A1114 m1115 n1116 a1118, r6 A1114 m1115 n1116 l1113] w)) (H : Aside0 (store_Store_has.f l1113 a1118 a1119 = some r)) :
    Calls Tryd.prog 127 #[.pointer (some ⟨g1111, 0, none⟩), .int .i64 a1119] w fun e w' => e = .returned (.bool r) ∧ Sep (fps [b7 g1111 A1114 m1115 n1116 a1118, r6 A1114 m1115 n1116 l1113]) w [b7 g1111 A1114 m1115 n1116 a1118, r6 A1114 m1115 n1116 l1113] w' := by
  generalize (fps [b7 g1111 A1114 m1115 n1116 a1118, r6 A1114 m1115 n1116 l1113]) = FF at HS HGl0 ⊢
  obtain rfl := (row_len (HS.out.at1)).symm
  unfold store_Store_has.f at H
  go_enter Tryd.func127, Tryd.ntmps127
  by_cases c1120 : a1119 ≥ 0
  · replace H := if_yes c1120 H
    have c1120b0 : decide (0 ≤ a1119) = true := decide_eq_true c1120
    clear c1120
    have hc1121 : w.cell? ⟨g1111, 0, none⟩ = some (.slice A1114 l1113.length n1116) := blk_cellv (HS.out.at0) 0 rfl
    go_wp2_with fail
    clear hc1121
    go_ret
    rw [← some_eq H]
    exact ⟨(by first | rfl | (simp [IntKind.wrap_u32]; done)), HS.out⟩
  · replace H := if_no c1120 H
    have c1120b0 : decide (0 ≤ a1119) = false := decide_eq_false c1120
    clear c1120
    go_wp2_with fail
    go_ret
    rw [← some_eq H]
    exact ⟨(by first | rfl | (simp [IntKind.wrap_u32]; done)), HS.out⟩

set_option maxHeartbeats 30000000 in
set_option maxRecDepth 100000 in
theorem atomic_Uint64_Add.calls (l1129 : List Int) (a1134 : Int) (a1135 : Int) (g1127 : Nat) (A1130 : Option Addr) (m1131 : Nat) (n1132 : Nat) (r : Int × Int) (w : World)  (HGl0 : Aside0 (Gl 0 #[.int .i64 0, .int .i64 0, .int .i64 0, .int .i64 0, .int .i64 0] (fps [b7 g1127 A1130 m1131 n1132 a1134, r6 A1130 m1131 n1132 l1129]) w)) (HS : Aside0 (Sep (fps [b7 g1127 A1130 m1131 n1132 a1134, r6 A1130 m1131 n1132 l1129]) w [b7 g1127 A1130 m1131 n1132 a1134, r6 A1130 m1131 n1132 l1129] w)) (H : Aside0 (atomic_Uint64_Add.f l1129 a1134 a1135 = some r)) :
    Calls Tryd.prog 128 #[.pointer (some ⟨g1127, 1, none⟩), .int .u64 a1135] w fun e w' => e = .returned (.int .u64 r.1) ∧ Sep (fps [b7 g1127 A1130 m1131 n1132 a1134, r6 A1130 m1131 n1132 l1129]) w [b7 g1127 A1130 m1131 n1132 r.2, r6 A1130 m1131 n1132 l1129] w' := by
  generalize (fps [b7 g1127 A1130 m1131 n1132 a1134, r6 A1130 m1131 n1132 l1129]) = FF at HS HGl0 ⊢
  obtain rfl := (row_len (HS.out.at1)).symm
  unfold atomic_Uint64_Add.f at H
  go_enter Tryd.func128, Tryd.ntmps128
  obtain ⟨y1145, HA1146, H⟩ := bind_some H
  have hc1142 : w.cell? ⟨g1127, 1, none⟩ = some (.int .u64 a1134) := blk_cellv (HS.out.at0) 1 rfl
  have hz1144 : w.frozen? ⟨g1127, 1, none⟩ = false := blk_fz (HS.out.at0) 1
  have hn1143 : (callFunc 153 #[.pointer (some ⟨g1127, 1, none⟩), .int .u64 a1135]).run Tryd.prog w = .ok (.value (.int .u64 y1145)) ((World.setCell w ⟨g1127, 1, none⟩ (.int .u64 y1145))) := (some_eq HA1146) ▸ run_call_add Tryd.func153 (by kernel_rfl) (by kernel_rfl) (by kernel_rfl) .u64 (by kernel_rfl) hc1142 hz1144 (by rfl)
  go_wp2_with (first | ((with_reducible refine gate_dst (N := 9) rfl ?_); refine run_on2 (by rfl) (w1 := (World.setCell w ⟨g1127, 1, none⟩ (.int .u64 y1145))) (v := .int .u64 y1145) ?hr ?_; (case hr => first | (go_simp; done) | (go_simp; rfl)); intro w1147 hst; clear hc1142 hz1144; have hq0 : Sep FF w [b7 g1127 A1130 l1129.length n1132 y1145, r6 A1130 l1129.length n1132 l1129] (World.setCell w ⟨g1127, 1, none⟩ (.int .u64 y1145)) := (HS.out).set1 (l1 := []) (l2 := [r6 A1130 l1129.length n1132 l1129]) 1 (.int .u64 y1145); replace HS : Aside0 (Sep FF w [b7 g1127 A1130 l1129.length n1132 y1145, r6 A1130 l1129.length n1132 l1129] w1147) := ⟨by rw [hst]; exact hq0⟩; clear hst hn1143 hq0))
  go_ret
  rw [← some_eq H]
  exact ⟨(by first | rfl | (simp [IntKind.wrap_u32]; done)), HS.out⟩

set_option maxHeartbeats 30000000 in
set_option maxRecDepth 100000 in
theorem store_Store_Put.calls (l1102 : List Int) (a1107 : Int) (a1108 : Int) (a1109 : Int) (g1100 : Nat) (A1103 : Option Addr) (m1104 : Nat) (n1105 : Nat) (r : Bool × Int × List Int) (w : World)  (HGl0 : Aside0 (Gl 0 #[.int .i64 0, .int .i64 0, .int .i64 0, .int .i64 0, .int .i64 0] (fps [b7 g1100 A1103 m1104 n1105 a1107, r6 A1103 m1104 n1105 l1102]) w)) (HS : Aside0 (Sep (fps [b7 g1100 A1103 m1104 n1105 a1107, r6 A1103 m1104 n1105 l1102]) w [b7 g1100 A1103 m1104 n1105 a1107, r6 A1103 m1104 n1105 l1102] w)) (H : Aside0 (store_Store_Put.f l1102 a1107 a1108 a1109 = some r)) :
    Calls Tryd.prog 71 #[.pointer (some ⟨g1100, 0, none⟩), .int .i64 a1108, .int .u32 a1109] w fun e w' => e = .returned (.bool r.1) ∧ Sep (fps [b7 g1100 A1103 m1104 n1105 a1107, r6 A1103 m1104 n1105 l1102]) w [b7 g1100 A1103 m1104 n1105 r.2.1, r6 A1103 m1104 n1105 r.2.2] w' := by
  generalize (fps [b7 g1100 A1103 m1104 n1105 a1107, r6 A1103 m1104 n1105 l1102]) = FF at HS HGl0 ⊢
  obtain rfl := (row_len (HS.out.at1)).symm
  unfold store_Store_Put.f at H
  go_enter Tryd.func71, Tryd.ntmps71
  go_wp2_with fail
  obtain ⟨t1160, HA1161, H⟩ := bind_some H
  refine (store_Store_has.calls l1102 a1107 a1108 g1100 A1103 l1102.length n1105 t1160 _ ⟨HGl0.out.pass HS.out⟩ ⟨HS.out.begin⟩ HA1161).mono ?_
  rintro e_ w1162 ⟨rfl, hS⟩
  replace HS : Aside0 (Sep FF w [b7 g1100 A1103 l1102.length n1105 a1107, r6 A1103 l1102.length n1105 l1102] w1162) := ⟨HS.out.call hS⟩
  clear hS
  by_cases c1163 : t1160 = true
  · replace H := if_yes c1163 H
    have c1163b0 : t1160 = true := c1163
    have c1163b1 : (!t1160) = false := by rw [c1163b0]; rfl
    try rw [c1163b1]
    clear c1163
    go_wp2_with fail
    obtain ⟨t1164, HA1165, H⟩ := bind_some H
    refine (atomic_Uint64_Add.calls l1102 a1107 1 g1100 A1103 l1102.length n1105 t1164 _ ⟨HGl0.out.pass HS.out⟩ ⟨HS.out.begin⟩ HA1165).mono ?_
    rintro e_ w1166 ⟨rfl, hS⟩
    replace HS : Aside0 (Sep FF w [b7 g1100 A1103 l1102.length n1105 t1164.2, r6 A1103 l1102.length n1105 l1102] w1166) := ⟨HS.out.call hS⟩
    clear hS
    by_cases c1168 : 0 ≤ a1108
    · replace H := if_yes c1168 H
      have c1168b0 : decide (0 ≤ a1108) = true := decide_eq_true c1168
      have c1168p : (0 ≤ a1108) = True := eq_true c1168
      clear c1168
      by_cases c1169 : a1108 < (l1102.length : Int)
      · replace H := if_yes c1169 H
        have c1169b0 : decide (a1108 < (l1102.length : Int)) = true := decide_eq_true c1169
        have c1169p : (a1108 < (l1102.length : Int)) = True := eq_true c1169
        clear c1169
        obtain ⟨y1172, HA1173, H⟩ := bind_some H
        have hc1167 : w1166.cell? ⟨g1100, 0, none⟩ = some (.slice A1103 l1102.length n1105) := blk_cellv (HS.out.at0) 0 rfl
        obtain ⟨g1170, ea⟩ := row_at (HS.out.at1) (by have := (of_decide_eq_true c1168b0); have := (of_decide_eq_true c1169b0); omega); cases ea
        have hx1174 := (row_get 0 (HS.out.at1) a1108 (of_decide_eq_true c1168b0) (of_decide_eq_true c1169b0)).1
        have hz1175 := (row_get 0 (HS.out.at1) a1108 (of_decide_eq_true c1168b0) (of_decide_eq_true c1169b0)).2
        go_wp2_with (first | ((with_reducible refine gate_store (t := 33) (p := 21) rfl ?_); refine store_event (w1 := World.setCell w1166 ⟨g1170, (a1108).toNat, none⟩ (.int .u32 a1109)) rfl (t := 33) (p := 21) rfl rfl ?hr ?_; (case hr => first | (go_simp; done) | (go_simp; rfl)); intro w1171 hst; clear hc1167 hx1174 hz1175; have hq := Sep.rowset (l1 := [b7 g1100 (some ⟨g1170, 0, none⟩) l1102.length n1105 t1164.2]) (l2 := []) HS.out a1108 a1109; rw [← hst, some_eq HA1173] at hq; replace HS : Aside0 (Sep FF w [b7 g1100 (some ⟨g1170, 0, none⟩) l1102.length n1105 t1164.2, r6 (some ⟨g1170, 0, none⟩) l1102.length n1105 y1172] w1171) := ⟨hq⟩; clear hst hq))
        go_ret
        rw [← some_eq H]
        exact ⟨(by first | rfl | (simp [IntKind.wrap_u32]; done)), HS.out⟩
      · replace H := if_no c1169 H
        have c1169b0 : decide (a1108 < (l1102.length : Int)) = false := decide_eq_false c1169
        clear c1169
        exact (none_no H).elim
    · replace H := if_no c1168 H
      have c1168b0 : decide (0 ≤ a1108) = false := decide_eq_false c1168
      clear c1168
      exact (none_no H).elim
  · replace H := if_no c1163 H
    have c1163b0 : t1160 = false := by simpa using c1163
    have c1163b1 : (!t1160) = true := by rw [c1163b0]; rfl
    try rw [c1163b1]
    clear c1163
    go_wp2_with fail
    go_ret
    rw [← some_eq H]
    exact ⟨(by first | rfl | (simp [IntKind.wrap_u32]; done)), HS.out⟩

set_option maxHeartbeats 30000000 in
set_option maxRecDepth 100000 in
theorem ground_Ground_SetWord.calls (l982 : List Int) (a987 : Int) (a988 : Int) (a989 : Int) (a990 : Int) (a991 : Int) (a992 : Int) (a993 : Int) (a994 : Int) (g978 : Nat) (g980 : Nat) (A983 : Option Addr) (m984 : Nat) (n985 : Nat) (r : Bool × Int × List Int) (w : World)  (HGl0 : Aside0 (Gl 0 #[.int .i64 0, .int .i64 0, .int .i64 0, .int .i64 0, .int .i64 0] (fps [b8 g978 g980 a988 a989 a990 a991, b7 g980 A983 m984 n985 a987, r6 A983 m984 n985 l982]) w)) (HS : Aside0 (Sep (fps [b8 g978 g980 a988 a989 a990 a991, b7 g980 A983 m984 n985 a987, r6 A983 m984 n985 l982]) w [b8 g978 g980 a988 a989 a990 a991, b7 g980 A983 m984 n985 a987, r6 A983 m984 n985 l982] w)) (H : Aside0 (ground_Ground_SetWord.f l982 a987 a988 a989 a990 a991 a992 a993 a994 = some r)) :
    Calls Tryd.prog 17 #[.pointer (some ⟨g978, 0, none⟩), .int .i64 a992, .int .i64 a993, .int .u32 a994] w fun e w' => e = .returned (.bool r.1) ∧ Sep (fps [b8 g978 g980 a988 a989 a990 a991, b7 g980 A983 m984 n985 a987, r6 A983 m984 n985 l982]) w [b8 g978 g980 a988 a989 a990 a991, b7 g980 A983 m984 n985 r.2.1, r6 A983 m984 n985 r.2.2] w' := by
  generalize (fps [b8 g978 g980 a988 a989 a990 a991, b7 g980 A983 m984 n985 a987, r6 A983 m984 n985 l982]) = FF at HS HGl0 ⊢
  obtain rfl := (row_len (HS.out.at2)).symm
  unfold ground_Ground_SetWord.f at H
  go_enter Tryd.func17, Tryd.ntmps17
  go_wp2_with fail
  obtain ⟨t1179, HA1180, H⟩ := bind_some H
  refine (ground_Ground_all.calls l982 a987 a988 a989 a990 a991 g978 g980 A983 l982.length n985 t1179 _ ⟨HGl0.out.pass HS.out⟩ ⟨HS.out.begin⟩ HA1180).mono ?_
  rintro e_ w1181 ⟨rfl, hS⟩
  replace HS : Aside0 (Sep FF w [b8 g978 g980 a988 a989 a990 a991, b7 g980 A983 l982.length n985 a987, r6 A983 l982.length n985 l982] w1181) := ⟨HS.out.call hS⟩
  clear hS
  go_wp2_with fail
  obtain ⟨t1182, HA1183, H⟩ := bind_some H
  refine (ground_Ground_word.calls l982 a987 a988 a989 a990 a991 a992 a993 g978 g980 A983 l982.length n985 t1182 _ ⟨HGl0.out.pass HS.out⟩ ⟨HS.out.begin⟩ HA1183).mono ?_
  rintro e_ w1184 ⟨rfl, hS⟩
  replace HS : Aside0 (Sep FF w [b8 g978 g980 a988 a989 a990 a991, b7 g980 A983 l982.length n985 a987, r6 A983 l982.length n985 l982] w1184) := ⟨HS.out.call hS⟩
  clear hS
  go_wp2_with fail
  replace HS : Aside0 (Sep FF w [r6 A983 l982.length n985 l982, b8 g978 g980 a988 a989 a990 a991, b7 g980 A983 l982.length n985 a987] w1184) := ⟨HS.out.front 2 (by simp)⟩
  replace HS : Aside0 (Sep FF w [b7 g980 A983 l982.length n985 a987, r6 A983 l982.length n985 l982, b8 g978 g980 a988 a989 a990 a991] w1184) := ⟨HS.out.front 2 (by simp)⟩
  obtain ⟨t1185, HA1186, H⟩ := bind_some H
  refine (store_Store_Put.calls l982 a987 t1182 a994 g980 A983 l982.length n985 t1185 _ ⟨HGl0.out.pass HS.out⟩ ⟨HS.out.begin⟩ HA1186).mono ?_
  rintro e_ w1187 ⟨rfl, hS⟩
  replace HS : Aside0 (Sep FF w [b7 g980 A983 l982.length n985 t1185.2.1, r6 A983 l982.length n985 t1185.2.2, b8 g978 g980 a988 a989 a990 a991] w1187) := ⟨HS.out.call hS⟩
  clear hS
  go_wp2_with fail
  go_ret
  rw [← some_eq H]
  exact ⟨(by first | rfl | (simp [IntKind.wrap_u32]; done)), ((((HS.out).front 1 (by simp)).front 1 (by simp)).front 2 (by simp)).keep (l := [b8 g978 g980 a988 a989 a990 a991, b7 g980 A983 l982.length n985 t1185.2.1, r6 A983 l982.length n985 t1185.2.2]) (rest := [])⟩

set_option maxHeartbeats 30000000 in
set_option maxRecDepth 100000 in
theorem quitrentlaw09_made.calls (k : Nat) (l13 : List Int) (A14 : Option Addr) (n15 : Nat) (r : Bool ⊕ (Bool × Int × Int × Int × Int × Int × List Int)) (w : World) (HR16 : Aside0 (Rd (Kd.int .u8) (fps []) w A14 l13.length l13)) (HGl0 : Aside0 (Gl 0 #[.int .i64 0, .int .i64 0, .int .i64 0, .int .i64 0, .int .i64 0] (fps []) w)) (HS : Aside0 (Sep (fps []) w [] w)) (H : Aside0 (quitrentlaw09_made.f k l13 = some r)) :
    Calls Tryd.prog 22 #[.slice A14 l13.length n15] w fun e w' => Sum.elim (fun (r : Bool) => e = .returned (.tuple #[.pointer none, .bool r]) ∧ Sep (fps []) w [] w') (fun (r : Bool × Int × Int × Int × Int × Int × List Int) => ∃ (g1330 : Nat), e = .returned (.tuple #[.pointer (some ⟨g1330, 0, none⟩), .bool r.1]) ∧ ∃ (g1331 : Nat) (A1332 : Option Addr) (m1333 : Nat) (n1334 : Nat), Sep (fps []) w [b8 g1330 g1331 r.2.1 r.2.2.1 r.2.2.2.1 r.2.2.2.2.1, b7 g1331 A1332 m1333 n1334 r.2.2.2.2.2.1, r6 A1332 m1333 n1334 r.2.2.2.2.2.2] w') r := by
  unfold quitrentlaw09_made.f at H
  go_enter Tryd.func22, Tryd.ntmps22
  go_wp2_with fail
  obtain ⟨t1210, HA1211, H⟩ := bind_some H
  rcases t1210 with t1212 | (t1213 | t1214)
  · have H := sum_l H
    refine (ground_New.calls _ (l13.length : Int) 16 1 1 (.inl t1212) _ ⟨HGl0.out.pass (l := []) HS.out⟩ ⟨Sep.start _⟩ HA1211).mono ?_
    rintro e_ w1215 ⟨rfl, hS⟩
    replace HS : Aside0 (Sep (fps []) w [] w1215) := ⟨HS.out.call hS⟩
    clear hS
    go_wp2_with fail
    go_ret2
    rw [← some_eq H]
    exact ⟨(by first | rfl | (simp [IntKind.wrap_u32]; done)), HS.out⟩
  · have H := sum_r H
    have H := sum_l H
    refine (ground_New.calls _ (l13.length : Int) 16 1 1 (.inr (.inl t1213)) _ ⟨HGl0.out.pass (l := []) HS.out⟩ ⟨Sep.start _⟩ HA1211).mono ?_
    rintro e_ w1216 ⟨g1220, rfl, g1221, A1222, m1223, n1224, hS⟩
    replace HS : Aside0 (Sep (fps []) w [b8 g1220 g1221 t1213.1 t1213.2.1 t1213.2.2.1 t1213.2.2.2.1, b7 g1221 A1222 m1223 n1224 0, r6 A1222 m1223 n1224 t1213.2.2.2.2] w1216) := ⟨HS.out.call hS⟩
    clear hS
    obtain rfl := (row_len (HS.out.at2)).symm
    go_wp2_with fail
    obtain ⟨o1264, AL1265, H⟩ := bind_some H
    go_loopg [20] k (fun kq v20 wc => ∃ (x1268 : Int) (x1269 : List Int) (x1270 : Int), v20 = .int .i64 x1268 ∧ Aside0 (quitrentlaw09_made.lo0 kq l13 t1213 x1268 x1269 x1270 = some o1264) ∧ Aside0 (Sep (fps []) w [b8 g1220 g1221 t1213.1 t1213.2.1 t1213.2.2.1 t1213.2.2.2.1, b7 g1221 A1222 ((t1213.2.2.2.2).length) n1224 x1270, r6 A1222 ((t1213.2.2.2.2).length) n1224 x1269] wc))
    case atStart => exact ⟨(0), (t1213.2.2.2.2), (0), (by first | rfl | (simp [IntKind.wrap_u32]; done)), AL1265, ⟨HS.out⟩⟩
    case round =>
      clear AL1265 HS
      obtain ⟨x1268, x1269, x1270, rfl, AL1265, HS⟩ := hrel
      obtain ⟨w1266, rfl⟩ : ∃ x : World, x = wr := ⟨_, rfl⟩
      cases gk with
      | zero => exact absurd AL1265.out (by simp [quitrentlaw09_made.lo0])
      | succ k1267 =>
        have AL0 := AL1265.out
        rw [quitrentlaw09_made.lo0] at AL0
        clear AL1265
        have AL1265 := Aside0.mk AL0
        clear AL0
        by_cases c1271 : x1268 < (l13.length : Int)
        · replace AL1265 := if_yes c1271 AL1265
          have c1271b0 : decide (x1268 < (l13.length : Int)) = true := decide_eq_true c1271
          clear c1271
          by_cases c1272 : 0 ≤ x1268
          · replace AL1265 := if_yes c1272 AL1265
            have c1272b0 : decide (0 ≤ x1268) = true := decide_eq_true c1272
            have c1272p : (0 ≤ x1268) = True := eq_true c1272
            clear c1272
            have ip1273 : (x1268 < (l13.length : Int)) = True := eq_true (of_decide_eq_true c1271b0)
            obtain ⟨hx1274a, hx1274e, hx1274⟩ := Kd.at_int (Rd.read (fun _ _ _ _ h => h) HR16.out HS.out.fr) x1268 (of_decide_eq_true c1272b0) (of_decide_eq_true c1271b0); cases hx1274e
            go_wp2_with fail
            clear hx1274
            obtain ⟨t1236, HA1275, AL1265⟩ := bind_some AL1265
            refine (quitrentlaw09_tagOf.calls (rd l13 x1268) t1236 _ ⟨HGl0.out.pass (l := []) HS.out⟩ ⟨Sep.start _⟩ HA1275).mono ?_
            rintro e_ w1276 ⟨rfl, hS⟩
            replace HS : Aside0 (Sep (fps []) w [b8 g1220 g1221 t1213.1 t1213.2.1 t1213.2.2.1 t1213.2.2.2.1, b7 g1221 A1222 ((t1213.2.2.2.2).length) n1224 x1270, r6 A1222 ((t1213.2.2.2.2).length) n1224 x1269] w1276) := ⟨HS.out.call hS⟩
            clear hS
            go_wp2_with fail
            obtain ⟨t1239, HA1277, AL1265⟩ := bind_some AL1265
            refine (quitrentref06_Pack.calls t1236.1 t1236.2.1 t1236.2.2.1 t1236.2.2.2.1 t1236.2.2.2.2.1 t1236.2.2.2.2.2.1 t1236.2.2.2.2.2.2 t1239 _ ⟨HGl0.out.pass (l := []) HS.out⟩ ⟨Sep.start _⟩ HA1277).mono ?_
            rintro e_ w1278 ⟨rfl, hS⟩
            replace HS : Aside0 (Sep (fps []) w [b8 g1220 g1221 t1213.1 t1213.2.1 t1213.2.2.1 t1213.2.2.2.1, b7 g1221 A1222 ((t1213.2.2.2.2).length) n1224 x1270, r6 A1222 ((t1213.2.2.2.2).length) n1224 x1269] w1278) := ⟨HS.out.call hS⟩
            clear hS
            go_wp2_with fail
            obtain ⟨t1242, HA1279, AL1265⟩ := bind_some AL1265
            refine (ground_Ground_SetWord.calls x1269 x1270 t1213.1 t1213.2.1 t1213.2.2.1 t1213.2.2.2.1 x1268 0 t1239 g1220 g1221 A1222 ((t1213.2.2.2.2).length) n1224 t1242 _ ⟨HGl0.out.pass HS.out⟩ ⟨HS.out.begin⟩ HA1279).mono ?_
            rintro e_ w1280 ⟨rfl, hS⟩
            replace HS : Aside0 (Sep (fps []) w [b8 g1220 g1221 t1213.1 t1213.2.1 t1213.2.2.1 t1213.2.2.2.1, b7 g1221 A1222 ((t1213.2.2.2.2).length) n1224 t1242.2.1, r6 A1222 ((t1213.2.2.2.2).length) n1224 t1242.2.2] w1280) := ⟨HS.out.call hS⟩
            clear hS
            by_cases c1281 : t1242.1 = true
            · replace AL1265 := if_yes c1281 AL1265
              have c1281b0 : t1242.1 = true := c1281
              have c1281b1 : (!t1242.1) = false := by rw [c1281b0]; rfl
              try rw [c1281b1]
              clear c1281
              go_wp2_with fail
              go_roundg k1267
              case measure => exact Nat.lt_succ_self _
              case rel => exact ⟨(wrap64 (x1268 + 1)), (t1242.2.2), (t1242.2.1), (by first | rfl | (simp [IntKind.wrap_u32]; done)), Aside0.mk AL1265.out, ⟨HS.out⟩⟩
            · replace AL1265 := if_no c1281 AL1265
              have c1281b0 : t1242.1 = false := by simpa using c1281
              have c1281b1 : (!t1242.1) = true := by rw [c1281b0]; rfl
              try rw [c1281b1]
              clear c1281
              go_wp2_with fail
              have ho := some_eq AL1265
              subst ho
              have H := lp_ret H
              go_ret2
              rw [← some_eq H]
              exact ⟨g1220, (by first | rfl | (simp [IntKind.wrap_u32]; done)), g1221, A1222, ((t1213.2.2.2.2).length), n1224, HS.out⟩
          · replace AL1265 := if_no c1272 AL1265
            have c1272b0 : decide (0 ≤ x1268) = false := decide_eq_false c1272
            clear c1272
            exact (none_no AL1265).elim
        · replace AL1265 := if_no c1271 AL1265
          have c1271b0 : decide (x1268 < (l13.length : Int)) = false := decide_eq_false c1271
          clear c1271
          have ho := some_eq AL1265
          subst ho
          clear AL1265
          have H := lp_out H
          go_wp2_with fail
          go_ret2
          rw [← some_eq H]
          exact ⟨g1220, (by first | rfl | (simp [IntKind.wrap_u32]; done)), g1221, A1222, ((t1213.2.2.2.2).length), n1224, HS.out⟩
  · have H := sum_r H
    have H := sum_r H
    refine (ground_New.calls _ (l13.length : Int) 16 1 1 (.inr (.inr t1214)) _ ⟨HGl0.out.pass (l := []) HS.out⟩ ⟨Sep.start _⟩ HA1211).mono ?_
    rintro e_ w1310 ⟨rfl, hS⟩
    replace HS : Aside0 (Sep (fps []) w [] w1310) := ⟨HS.out.call hS⟩
    clear hS
    by_cases c1311 : t1214 = 0
    · replace H := if_yes c1311 H
      have c1311b0 : (t1214 == 0) = true := beq_iff_eq.mpr c1311
      have c1311b1 : (t1214 != 0) = false := bne_eq_false_iff_eq.mpr c1311
      clear c1311
      go_wp2_with fail
      obtain ⟨o1313, AL1314, H⟩ := bind_some H
      go_loopg [20] k (fun kq v20 wc => ∃ (x1317 : Int), v20 = .int .i64 x1317 ∧ Aside0 (quitrentlaw09_made.lo1 kq l13 x1317 = some o1313) ∧ Aside0 (Sep (fps []) w [] wc))
      case atStart => exact ⟨(0), (by first | rfl | (simp [IntKind.wrap_u32]; done)), AL1314, ⟨HS.out⟩⟩
      case round =>
        clear AL1314 HS
        obtain ⟨x1317, rfl, AL1314, HS⟩ := hrel
        obtain ⟨w1315, rfl⟩ : ∃ x : World, x = wr := ⟨_, rfl⟩
        cases gk with
        | zero => exact absurd AL1314.out (by simp [quitrentlaw09_made.lo1])
        | succ k1316 =>
          have AL0 := AL1314.out
          rw [quitrentlaw09_made.lo1] at AL0
          clear AL1314
          have AL1314 := Aside0.mk AL0
          clear AL0
          by_cases c1318 : x1317 < (l13.length : Int)
          · replace AL1314 := if_yes c1318 AL1314
            have c1318b0 : decide (x1317 < (l13.length : Int)) = true := decide_eq_true c1318
            clear c1318
            by_cases c1319 : 0 ≤ x1317
            · replace AL1314 := if_yes c1319 AL1314
              have c1319b0 : decide (0 ≤ x1317) = true := decide_eq_true c1319
              have c1319p : (0 ≤ x1317) = True := eq_true c1319
              clear c1319
              have ip1320 : (x1317 < (l13.length : Int)) = True := eq_true (of_decide_eq_true c1318b0)
              obtain ⟨hx1321a, hx1321e, hx1321⟩ := Kd.at_int (Rd.read (fun _ _ _ _ h => h) HR16.out HS.out.fr) x1317 (of_decide_eq_true c1319b0) (of_decide_eq_true c1318b0); cases hx1321e
              go_wp2_with fail
              clear hx1321
              obtain ⟨t1236, HA1322, AL1314⟩ := bind_some AL1314
              refine (quitrentlaw09_tagOf.calls (rd l13 x1317) t1236 _ ⟨HGl0.out.pass (l := []) HS.out⟩ ⟨Sep.start _⟩ HA1322).mono ?_
              rintro e_ w1323 ⟨rfl, hS⟩
              replace HS : Aside0 (Sep (fps []) w [] w1323) := ⟨HS.out.call hS⟩
              clear hS
              go_wp2_with fail
              obtain ⟨t1239, HA1324, AL1314⟩ := bind_some AL1314
              refine (quitrentref06_Pack.calls t1236.1 t1236.2.1 t1236.2.2.1 t1236.2.2.2.1 t1236.2.2.2.2.1 t1236.2.2.2.2.2.1 t1236.2.2.2.2.2.2 t1239 _ ⟨HGl0.out.pass (l := []) HS.out⟩ ⟨Sep.start _⟩ HA1324).mono ?_
              rintro e_ w1325 ⟨rfl, hS⟩
              replace HS : Aside0 (Sep (fps []) w [] w1325) := ⟨HS.out.call hS⟩
              clear hS
              exact (none_no AL1314).elim
            · replace AL1314 := if_no c1319 AL1314
              have c1319b0 : decide (0 ≤ x1317) = false := decide_eq_false c1319
              clear c1319
              exact (none_no AL1314).elim
          · replace AL1314 := if_no c1318 AL1314
            have c1318b0 : decide (x1317 < (l13.length : Int)) = false := decide_eq_false c1318
            clear c1318
            have ho := some_eq AL1314
            subst ho
            clear AL1314
            go_wp2_with fail
            go_ret2
            rw [← some_eq H]
            exact ⟨(by first | rfl | (simp [IntKind.wrap_u32]; done)), HS.out⟩
    · replace H := if_no c1311 H
      have c1311b0 : (t1214 == 0) = false := beq_eq_false_iff_ne.mpr c1311
      have c1311b1 : (t1214 != 0) = true := bne_iff_ne.mpr c1311
      clear c1311
      go_wp2_with fail
      go_ret2
      rw [← some_eq H]
      exact ⟨(by first | rfl | (simp [IntKind.wrap_u32]; done)), HS.out⟩

set_option maxHeartbeats 30000000 in
set_option maxRecDepth 100000 in
theorem store_Store_Get.calls (l1465 : List Int) (a1470 : Int) (a1471 : Int) (g1463 : Nat) (A1466 : Option Addr) (m1467 : Nat) (n1468 : Nat) (r : Int × Int) (w : World)  (HGl0 : Aside0 (Gl 0 #[.int .i64 0, .int .i64 0, .int .i64 0, .int .i64 0, .int .i64 0] (fps [b7 g1463 A1466 m1467 n1468 a1470, r6 A1466 m1467 n1468 l1465]) w)) (HS : Aside0 (Sep (fps [b7 g1463 A1466 m1467 n1468 a1470, r6 A1466 m1467 n1468 l1465]) w [b7 g1463 A1466 m1467 n1468 a1470, r6 A1466 m1467 n1468 l1465] w)) (H : Aside0 (store_Store_Get.f l1465 a1470 a1471 = some r)) :
    Calls Tryd.prog 130 #[.pointer (some ⟨g1463, 0, none⟩), .int .i64 a1471] w fun e w' => e = .returned (.int .u32 r.1) ∧ Sep (fps [b7 g1463 A1466 m1467 n1468 a1470, r6 A1466 m1467 n1468 l1465]) w [b7 g1463 A1466 m1467 n1468 r.2, r6 A1466 m1467 n1468 l1465] w' := by
  generalize (fps [b7 g1463 A1466 m1467 n1468 a1470, r6 A1466 m1467 n1468 l1465]) = FF at HS HGl0 ⊢
  obtain rfl := (row_len (HS.out.at1)).symm
  unfold store_Store_Get.f at H
  go_enter Tryd.func130, Tryd.ntmps130
  go_wp2_with fail
  obtain ⟨t1485, HA1486, H⟩ := bind_some H
  refine (store_Store_has.calls l1465 a1470 a1471 g1463 A1466 l1465.length n1468 t1485 _ ⟨HGl0.out.pass HS.out⟩ ⟨HS.out.begin⟩ HA1486).mono ?_
  rintro e_ w1487 ⟨rfl, hS⟩
  replace HS : Aside0 (Sep FF w [b7 g1463 A1466 l1465.length n1468 a1470, r6 A1466 l1465.length n1468 l1465] w1487) := ⟨HS.out.call hS⟩
  clear hS
  by_cases c1488 : t1485 = true
  · replace H := if_yes c1488 H
    have c1488b0 : t1485 = true := c1488
    have c1488b1 : (!t1485) = false := by rw [c1488b0]; rfl
    try rw [c1488b1]
    clear c1488
    go_wp2_with fail
    obtain ⟨t1489, HA1490, H⟩ := bind_some H
    refine (atomic_Uint64_Add.calls l1465 a1470 1 g1463 A1466 l1465.length n1468 t1489 _ ⟨HGl0.out.pass HS.out⟩ ⟨HS.out.begin⟩ HA1490).mono ?_
    rintro e_ w1491 ⟨rfl, hS⟩
    replace HS : Aside0 (Sep FF w [b7 g1463 A1466 l1465.length n1468 t1489.2, r6 A1466 l1465.length n1468 l1465] w1491) := ⟨HS.out.call hS⟩
    clear hS
    by_cases c1493 : 0 ≤ a1471
    · replace H := if_yes c1493 H
      have c1493b0 : decide (0 ≤ a1471) = true := decide_eq_true c1493
      have c1493p : (0 ≤ a1471) = True := eq_true c1493
      clear c1493
      by_cases c1494 : a1471 < (l1465.length : Int)
      · replace H := if_yes c1494 H
        have c1494b0 : decide (a1471 < (l1465.length : Int)) = true := decide_eq_true c1494
        have c1494p : (a1471 < (l1465.length : Int)) = True := eq_true c1494
        clear c1494
        have hc1492 : w1491.cell? ⟨g1463, 0, none⟩ = some (.slice A1466 l1465.length n1468) := blk_cellv (HS.out.at0) 0 rfl
        obtain ⟨g1495, ea⟩ := row_at (HS.out.at1) (by have := (of_decide_eq_true c1493b0); have := (of_decide_eq_true c1494b0); omega); cases ea
        have hx1496 := C_at_int (row_Ci (HS.out.at1)) a1471 (of_decide_eq_true c1493b0) (of_decide_eq_true c1494b0)
        have hx1497 : w1491.cell? ⟨g1495, (a1471).toNat, none⟩ = some (.int .u32 (rd l1465 a1471)) := (row_get 0 (HS.out.at1) a1471 (of_decide_eq_true c1493b0) (of_decide_eq_true c1494b0)).1
        go_wp2_with fail
        clear hc1492 hx1496 hx1497
        go_ret
        rw [← some_eq H]
        exact ⟨(by first | rfl | (simp [IntKind.wrap_u32]; done)), HS.out⟩
      · replace H := if_no c1494 H
        have c1494b0 : decide (a1471 < (l1465.length : Int)) = false := decide_eq_false c1494
        clear c1494
        exact (none_no H).elim
    · replace H := if_no c1493 H
      have c1493b0 : decide (0 ≤ a1471) = false := decide_eq_false c1493
      clear c1493
      exact (none_no H).elim
  · replace H := if_no c1488 H
    have c1488b0 : t1485 = false := by simpa using c1488
    have c1488b1 : (!t1485) = true := by rw [c1488b0]; rfl
    try rw [c1488b1]
    clear c1488
    go_wp2_with fail
    go_ret
    rw [← some_eq H]
    exact ⟨(by first | rfl | (simp [IntKind.wrap_u32]; done)), HS.out⟩

set_option maxHeartbeats 30000000 in
set_option maxRecDepth 100000 in
theorem ground_Ground_Word.calls (l1444 : List Int) (a1449 : Int) (a1450 : Int) (a1451 : Int) (a1452 : Int) (a1453 : Int) (a1454 : Int) (a1455 : Int) (g1440 : Nat) (g1442 : Nat) (A1445 : Option Addr) (m1446 : Nat) (n1447 : Nat) (r : Int × Int) (w : World)  (HGl0 : Aside0 (Gl 0 #[.int .i64 0, .int .i64 0, .int .i64 0, .int .i64 0, .int .i64 0] (fps [b8 g1440 g1442 a1450 a1451 a1452 a1453, b7 g1442 A1445 m1446 n1447 a1449, r6 A1445 m1446 n1447 l1444]) w)) (HS : Aside0 (Sep (fps [b8 g1440 g1442 a1450 a1451 a1452 a1453, b7 g1442 A1445 m1446 n1447 a1449, r6 A1445 m1446 n1447 l1444]) w [b8 g1440 g1442 a1450 a1451 a1452 a1453, b7 g1442 A1445 m1446 n1447 a1449, r6 A1445 m1446 n1447 l1444] w)) (H : Aside0 (ground_Ground_Word.f l1444 a1449 a1450 a1451 a1452 a1453 a1454 a1455 = some r)) :
    Calls Tryd.prog 84 #[.pointer (some ⟨g1440, 0, none⟩), .int .i64 a1454, .int .i64 a1455] w fun e w' => e = .returned (.int .u32 r.1) ∧ Sep (fps [b8 g1440 g1442 a1450 a1451 a1452 a1453, b7 g1442 A1445 m1446 n1447 a1449, r6 A1445 m1446 n1447 l1444]) w [b8 g1440 g1442 a1450 a1451 a1452 a1453, b7 g1442 A1445 m1446 n1447 r.2, r6 A1445 m1446 n1447 l1444] w' := by
  generalize (fps [b8 g1440 g1442 a1450 a1451 a1452 a1453, b7 g1442 A1445 m1446 n1447 a1449, r6 A1445 m1446 n1447 l1444]) = FF at HS HGl0 ⊢
  obtain rfl := (row_len (HS.out.at2)).symm
  unfold ground_Ground_Word.f at H
  go_enter Tryd.func84, Tryd.ntmps84
  go_wp2_with fail
  obtain ⟨t1501, HA1502, H⟩ := bind_some H
  refine (ground_Ground_all.calls l1444 a1449 a1450 a1451 a1452 a1453 g1440 g1442 A1445 l1444.length n1447 t1501 _ ⟨HGl0.out.pass HS.out⟩ ⟨HS.out.begin⟩ HA1502).mono ?_
  rintro e_ w1503 ⟨rfl, hS⟩
  replace HS : Aside0 (Sep FF w [b8 g1440 g1442 a1450 a1451 a1452 a1453, b7 g1442 A1445 l1444.length n1447 a1449, r6 A1445 l1444.length n1447 l1444] w1503) := ⟨HS.out.call hS⟩
  clear hS
  go_wp2_with fail
  obtain ⟨t1504, HA1505, H⟩ := bind_some H
  refine (ground_Ground_word.calls l1444 a1449 a1450 a1451 a1452 a1453 a1454 a1455 g1440 g1442 A1445 l1444.length n1447 t1504 _ ⟨HGl0.out.pass HS.out⟩ ⟨HS.out.begin⟩ HA1505).mono ?_
  rintro e_ w1506 ⟨rfl, hS⟩
  replace HS : Aside0 (Sep FF w [b8 g1440 g1442 a1450 a1451 a1452 a1453, b7 g1442 A1445 l1444.length n1447 a1449, r6 A1445 l1444.length n1447 l1444] w1506) := ⟨HS.out.call hS⟩
  clear hS
  go_wp2_with fail
  replace HS : Aside0 (Sep FF w [r6 A1445 l1444.length n1447 l1444, b8 g1440 g1442 a1450 a1451 a1452 a1453, b7 g1442 A1445 l1444.length n1447 a1449] w1506) := ⟨HS.out.front 2 (by simp)⟩
  replace HS : Aside0 (Sep FF w [b7 g1442 A1445 l1444.length n1447 a1449, r6 A1445 l1444.length n1447 l1444, b8 g1440 g1442 a1450 a1451 a1452 a1453] w1506) := ⟨HS.out.front 2 (by simp)⟩
  obtain ⟨t1507, HA1508, H⟩ := bind_some H
  refine (store_Store_Get.calls l1444 a1449 t1504 g1442 A1445 l1444.length n1447 t1507 _ ⟨HGl0.out.pass HS.out⟩ ⟨HS.out.begin⟩ HA1508).mono ?_
  rintro e_ w1509 ⟨rfl, hS⟩
  replace HS : Aside0 (Sep FF w [b7 g1442 A1445 l1444.length n1447 t1507.2, r6 A1445 l1444.length n1447 l1444, b8 g1440 g1442 a1450 a1451 a1452 a1453] w1509) := ⟨HS.out.call hS⟩
  clear hS
  go_wp2_with fail
  go_ret
  rw [← some_eq H]
  exact ⟨(by first | rfl | (simp [IntKind.wrap_u32]; done)), ((((HS.out).front 1 (by simp)).front 1 (by simp)).front 2 (by simp)).keep (l := [b8 g1440 g1442 a1450 a1451 a1452 a1453, b7 g1442 A1445 l1444.length n1447 t1507.2, r6 A1445 l1444.length n1447 l1444]) (rest := [])⟩

set_option maxHeartbeats 30000000 in
set_option maxRecDepth 100000 in
theorem pack_isPiece.calls (a1529 : Int) (a1530 : Int) (r : Bool) (w : World)  (HGl0 : Aside0 (Gl 0 #[.int .i64 0, .int .i64 0, .int .i64 0, .int .i64 0, .int .i64 0] (fps []) w)) (HS : Aside0 (Sep (fps []) w [] w)) (H : Aside0 (pack_isPiece.f a1529 a1530 = some r)) :
    Calls Tryd.prog 75 #[.int .i64 a1529, .int .i64 a1530] w fun e w' => e = .returned (.bool r) ∧ Sep (fps []) w [] w' := by
  unfold pack_isPiece.f at H
  go_enter Tryd.func75, Tryd.ntmps75
  by_cases c1531 : a1529 ≥ 0
  · replace H := if_yes c1531 H
    have c1531b0 : decide (0 ≤ a1529) = true := decide_eq_true c1531
    clear c1531
    by_cases c1532 : a1530 ≥ 1
    · replace H := if_yes c1532 H
      have c1532b0 : decide (1 ≤ a1530) = true := decide_eq_true c1532
      clear c1532
      by_cases c1533 : a1530 ≤ 32
      · replace H := if_yes c1533 H
        have c1533b0 : decide (a1530 ≤ 32) = true := decide_eq_true c1533
        clear c1533
        go_wp2_with fail
        go_ret
        rw [← some_eq H]
        exact ⟨(by first | rfl | (simp [IntKind.wrap_u32]; done)), HS.out⟩
      · replace H := if_no c1533 H
        have c1533b0 : decide (a1530 ≤ 32) = false := decide_eq_false c1533
        clear c1533
        go_wp2_with fail
        go_ret
        rw [← some_eq H]
        exact ⟨(by first | rfl | (simp [IntKind.wrap_u32]; done)), HS.out⟩
    · replace H := if_no c1532 H
      have c1532b0 : decide (1 ≤ a1530) = false := decide_eq_false c1532
      clear c1532
      go_wp2_with fail
      go_ret
      rw [← some_eq H]
      exact ⟨(by first | rfl | (simp [IntKind.wrap_u32]; done)), HS.out⟩
  · replace H := if_no c1531 H
    have c1531b0 : decide (0 ≤ a1529) = false := decide_eq_false c1531
    clear c1531
    go_wp2_with fail
    go_ret
    rw [← some_eq H]
    exact ⟨(by first | rfl | (simp [IntKind.wrap_u32]; done)), HS.out⟩

set_option maxHeartbeats 30000000 in
set_option maxRecDepth 100000 in
theorem pack_mask.calls (a1538 : Int) (a1539 : Int) (r : Int) (w : World)  (HGl0 : Aside0 (Gl 0 #[.int .i64 0, .int .i64 0, .int .i64 0, .int .i64 0, .int .i64 0] (fps []) w)) (HS : Aside0 (Sep (fps []) w [] w)) (H : Aside0 (pack_mask.f a1538 a1539 = some r)) :
    Calls Tryd.prog 76 #[.int .i64 a1538, .int .i64 a1539] w fun e w' => e = .returned (.int .u32 r) ∧ Sep (fps []) w [] w' := by
  unfold pack_mask.f at H
  go_enter Tryd.func76, Tryd.ntmps76
  by_cases c1540 : 0 ≤ (IntKind.u64.wrap (a1539))
  · replace H := if_yes c1540 H
    have c1540b0 : decide (0 ≤ (IntKind.u64.wrap (a1539))) = true := decide_eq_true c1540
    by_cases c1541 : 0 ≤ (IntKind.u64.wrap (a1538))
    · replace H := if_yes c1541 H
      have c1541b0 : decide (0 ≤ (IntKind.u64.wrap (a1538))) = true := decide_eq_true c1541
      skip
      skip
      go_wp2_with fail
      clear c1540 c1541
      go_ret
      rw [← some_eq H]
      exact ⟨(by first | rfl | (simp [IntKind.wrap_u32]; done)), HS.out⟩
    · replace H := if_no c1541 H
      have c1541b0 : decide (0 ≤ (IntKind.u64.wrap (a1538))) = false := decide_eq_false c1541
      exact (none_no H).elim
  · replace H := if_no c1540 H
    have c1540b0 : decide (0 ≤ (IntKind.u64.wrap (a1539))) = false := decide_eq_false c1540
    exact (none_no H).elim

set_option maxHeartbeats 30000000 in
set_option maxRecDepth 100000 in
theorem pack_Get.calls (a1526 : Int) (a1527 : Int) (a1528 : Int) (r : Int) (w : World)  (HGl0 : Aside0 (Gl 0 #[.int .i64 0, .int .i64 0, .int .i64 0, .int .i64 0, .int .i64 0] (fps []) w)) (HS : Aside0 (Sep (fps []) w [] w)) (H : Aside0 (pack_Get.f a1526 a1527 a1528 = some r)) :
    Calls Tryd.prog 20 #[.int .u32 a1526, .int .i64 a1527, .int .i64 a1528] w fun e w' => e = .returned (.int .u32 r) ∧ Sep (fps []) w [] w' := by
  unfold pack_Get.f at H
  go_enter Tryd.func20, Tryd.ntmps20
  go_wp2_with fail
  obtain ⟨t1534, HA1535, H⟩ := bind_some H
  refine (pack_isPiece.calls a1527 a1528 t1534 _ ⟨HGl0.out.pass (l := []) HS.out⟩ ⟨Sep.start _⟩ HA1535).mono ?_
  rintro e_ w1536 ⟨rfl, hS⟩
  replace HS : Aside0 (Sep (fps []) w [] w1536) := ⟨HS.out.call hS⟩
  clear hS
  by_cases c1537 : t1534 = true
  · replace H := if_yes c1537 H
    have c1537b0 : t1534 = true := c1537
    have c1537b1 : (!t1534) = false := by rw [c1537b0]; rfl
    try rw [c1537b1]
    clear c1537
    go_wp2_with fail
    obtain ⟨t1542, HA1543, H⟩ := bind_some H
    refine (pack_mask.calls a1527 a1528 t1542 _ ⟨HGl0.out.pass (l := []) HS.out⟩ ⟨Sep.start _⟩ HA1543).mono ?_
    rintro e_ w1544 ⟨rfl, hS⟩
    replace HS : Aside0 (Sep (fps []) w [] w1544) := ⟨HS.out.call hS⟩
    clear hS
    by_cases c1545 : 0 ≤ (IntKind.u64.wrap (a1527))
    · replace H := if_yes c1545 H
      have c1545b0 : decide (0 ≤ (IntKind.u64.wrap (a1527))) = true := decide_eq_true c1545
      skip
      go_wp2_with fail
      clear c1545
      go_ret
      rw [← some_eq H]
      exact ⟨(by first | rfl | (simp [IntKind.wrap_u32]; done)), HS.out⟩
    · replace H := if_no c1545 H
      have c1545b0 : decide (0 ≤ (IntKind.u64.wrap (a1527))) = false := decide_eq_false c1545
      exact (none_no H).elim
  · replace H := if_no c1537 H
    have c1537b0 : t1534 = false := by simpa using c1537
    have c1537b1 : (!t1534) = true := by rw [c1537b0]; rfl
    try rw [c1537b1]
    clear c1537
    go_wp2_with fail
    go_ret
    rw [← some_eq H]
    exact ⟨(by first | rfl | (simp [IntKind.wrap_u32]; done)), HS.out⟩
end Go.Proofs.YtobeonkddamnoaaDoor.C

/- Each function of the group OW does what its plain function says, and changes nothing that was there; proved by walking its code. No condition. -/
import Derived.Test.YtobeonkddamnoaaDoorQw
import Derived.Test.YtobeonkddamnoaaDoorMOW
namespace Go.Proofs.YtobeonkddamnoaaDoor.C
open Go.RowKit Go.Proofs.YtobeonkddamnoaaDoorW.PrintWords Go.Proofs.YtobeonkddamnoaaDoorW.PrintLast Go.Proofs.YtobeonkddamnoaaDoor.Q Go.Proofs.YtobeonkddamnoaaDoor.M
set_option linter.unusedVariables false
set_option linter.unusedSimpArgs false
def b1 (g : Nat) (x0 : Int) (x1 : Int) (x2 : Int) (x3 : Int) : Ob := blk g #[.int .i64 x0, .int .i64 x1, .int .i64 x2, .int .i64 x3] 30
def b2 (g : Nat) (x0 : Int) (x1 : Int) (x2 : Int) (x3 : Int) (x4 : Int) (x5 : Int) (x6 : Int) (x7 : Int) : Ob := blk g #[.int .i64 x0, .int .i64 x1, .int .i64 x2, .int .i64 x3, .int .i64 x4, .int .i64 x5, .int .i64 x6, .int .i64 x7] 97
def b3 (g : Nat) (x0 : Int) (x1 : Int) : Ob := blk g #[.int .i64 x0, .int .i64 x1] 3
def b4 (g : Nat) (x0 : Int) (x1 : Int) (x2 : Int) : Ob := blk g #[.int .i64 x0, .int .i64 x1, .int .i64 x2] 3
def r5 (A : Option Addr) (n c : Nat) (l : List Int) : Ob := row 33 (Value.int .u32) (.slice A n c) l
def b6 (g : Nat) (x0 : Option Addr) (x1 : Nat) (x2 : Nat) (x3 : Int) : Ob := blk g #[.slice x0 x1 x2, .int .u64 x3] 154
def b7 (g : Nat) (x0 : Nat) (x1 : Int) (x2 : Int) (x3 : Int) (x4 : Int) : Ob := blk g #[.pointer (some ⟨x0, 0, none⟩), .int .i64 x1, .int .i64 x2, .int .i64 x3, .int .i64 x4] 106
def b8 (g : Nat) (x0 : Int) (x1 : Int) (x2 : Int) : Ob := blk g #[.int .i64 x0, .int .i64 x1, .int .i64 x2] 166
def b9 (g : Nat) (x0 : Nat) : Ob := blk g #[.pointer (some ⟨x0, 0, none⟩)] 25
def b10 (g : Nat) (x0 : Int) : Ob := blk g #[.int .i64 x0] 3
def b11 (g : Nat) (x0 : Int) (x1 : Int) (x2 : Int) (x3 : Int) (x4 : Int) (x5 : Int) (x6 : Int) : Ob := blk g #[.int .i64 x0, .int .i64 x1, .int .i64 x2, .int .i64 x3, .int .i64 x4, .int .i64 x5, .int .i64 x6] 32
def b12 (g : Nat) (x0 : Int) (x1 : Int) (x2 : Int) (x3 : Int) (x4 : Int) : Ob := blk g #[.int .i64 x0, .int .i64 x1, .int .i64 x2, .int .i64 x3, .int .i64 x4] 108
def b13 (g : Nat) (x0 : Int) : Ob := blk g #[.int .u32 x0] 33
def b14 (g : Nat) (x0 : Int) (x1 : Int) : Ob := blk g #[.int .u32 x0, .int .u32 x1] 33
def b15 (g : Nat) (x0 : Int) (x1 : Int) (x2 : Int) (x3 : Int) (x4 : Int) (x5 : Int) (x6 : Int) (x7 : Int) : Ob := blk g #[.int .i64 x0, .int .i64 x1, .int .i64 x2, .int .i64 x3, .int .i64 x4, .int .i64 x5, .int .i64 x6, .int .i64 x7] 3
def b16 (g : Nat) (x0 : Int) (x1 : Int) : Ob := blk g #[.int .i64 x0, .int .i64 x1] 142
def r17 (A : Option Addr) (n c : Nat) (l : List Int) : Ob := row 3 (Value.int .i64) (.slice A n c) l
abbrev s18 : Kd (Int × Int) := (Kd.pair (Kd.int .i64) (Kd.int .i64))
theorem s18_at {F : Nat → Prop} {w W : World} {A : Option Addr} {n : Nat} {xs : List (Int × Int)} (h : Rd s18 F w A n xs) (hf : Fr F w W) (i : Int) (h0 : 0 ≤ i) (h1 : i < n) : ∃ ad, A = some ad ∧ W.cell? (ad.add (i.toNat * 2)) = some (.int .i64 ((rdOf (0, 0) xs i).1)) ∧ W.cell? ⟨(ad.add (i.toNat * 2)).block, (ad.add (i.toNat * 2)).off + 1, none⟩ = some (.int .i64 ((rdOf (0, 0) xs i).2)) := by
  obtain ⟨ad, c, e, hl, hk, hc⟩ := Rd.el h hf (0, 0) i h0 h1
  obtain ⟨_, _, rfl, rfl, rfl⟩ := hk
  exact ⟨ad, e, hc 0 _ rfl, hc 1 _ rfl⟩
def b19 (g : Nat) (x0 : Int) (x1 : Int) : Ob := blk g #[.int .i64 x0, .int .i64 x1] 63

set_option maxHeartbeats 30000000 in
set_option maxRecDepth 100000 in
theorem ratio_Clamp.calls (a55 : Int) (a56 : Int) (a57 : Int) (r : Int) (w : World)  (HGl0 : Aside0 (Gl 0 #[.int .i64 0, .int .i64 0, .int .i64 0, .int .i64 0, .int .i64 0] (fps []) w)) (HS : Aside0 (Sep (fps []) w [] w)) (H : Aside0 (ratio_Clamp.f a55 a56 a57 = some r)) :
    Calls Tryd.prog 157 #[.int .i64 a55, .int .i64 a56, .int .i64 a57] w fun e w' => e = .returned (.int .i64 r) ∧ Sep (fps []) w [] w' := by
  unfold ratio_Clamp.f at H
  go_enter Tryd.func157, Tryd.ntmps157
  by_cases c58 : a55 > a57
  · replace H := if_yes c58 H
    have c58b0 : decide (a57 < a55) = true := decide_eq_true c58
    clear c58
    go_wp2_with fail
    go_ret
    rw [← some_eq H]
    exact ⟨(by first | rfl | (simp [IntKind.wrap_u32]; done)), HS.out⟩
  · replace H := if_no c58 H
    have c58b0 : decide (a57 < a55) = false := decide_eq_false c58
    clear c58
    by_cases c59 : a55 < a56
    · replace H := if_yes c59 H
      have c59b0 : decide (a55 < a56) = true := decide_eq_true c59
      skip
      go_wp2_with fail
      clear c59
      go_ret
      rw [← some_eq H]
      exact ⟨(by first | rfl | (simp [IntKind.wrap_u32]; done)), HS.out⟩
    · replace H := if_no c59 H
      have c59b0 : decide (a55 < a56) = false := decide_eq_false c59
      skip
      go_wp2_with fail
      clear c59
      go_ret
      rw [← some_eq H]
      exact ⟨(by first | rfl | (simp [IntKind.wrap_u32]; done)), HS.out⟩

set_option maxHeartbeats 30000000 in
set_option maxRecDepth 100000 in
theorem plan_within.calls (a52 : Int) (a53 : Int) (a54 : Int) (r : Bool) (w : World)  (HGl0 : Aside0 (Gl 0 #[.int .i64 0, .int .i64 0, .int .i64 0, .int .i64 0, .int .i64 0] (fps []) w)) (HS : Aside0 (Sep (fps []) w [] w)) (H : Aside0 (plan_within.f a52 a53 a54 = some r)) :
    Calls Tryd.prog 147 #[.int .i64 a52, .int .i64 a53, .int .i64 a54] w fun e w' => e = .returned (.bool r) ∧ Sep (fps []) w [] w' := by
  unfold plan_within.f at H
  go_enter Tryd.func147, Tryd.ntmps147
  go_wp2_with fail
  obtain ⟨t60, HA61, H⟩ := bind_some H
  refine (ratio_Clamp.calls a52 a53 a54 t60 _ ⟨HGl0.out.pass (l := []) HS.out⟩ ⟨Sep.start _⟩ HA61).mono ?_
  rintro e_ w62 ⟨rfl, hS⟩
  replace HS : Aside0 (Sep (fps []) w [] w62) := ⟨HS.out.call hS⟩
  clear hS
  go_wp2_with fail
  go_ret
  rw [← some_eq H]
  exact ⟨(by first | rfl | (simp [IntKind.wrap_u32]; done)), HS.out⟩

set_option maxHeartbeats 30000000 in
set_option maxRecDepth 100000 in
theorem plan_Check.calls (a44 : Int) (a45 : Int) (a46 : Int) (a47 : Int) (r : Int) (w : World)  (HGl0 : Aside0 (Gl 0 #[.int .i64 0, .int .i64 0, .int .i64 0, .int .i64 0, .int .i64 0] (fps []) w)) (HS : Aside0 (Sep (fps []) w [] w)) (H : Aside0 (plan_Check.f a44 a45 a46 a47 = some r)) :
    Calls Tryd.prog 121 #[.agg #[.int .i64 a44, .int .i64 a45, .int .i64 a46, .int .i64 a47]] w fun e w' => e = .returned (.int .i64 r) ∧ Sep (fps []) w [] w' := by
  unfold plan_Check.f at H
  go_enter Tryd.func121, Tryd.ntmps121
  go_wp2_with (first | ((with_reducible refine gate_dst (N := 1) rfl ?_); refine box_on ?hg (N := 1) ?hd (cs := #[.int .i64 a44, .int .i64 a45, .int .i64 a46, .int .i64 a47]) (t := 30) ?hr ?_; (case hd => rfl); (case hg => rfl); (case hr => first | (go_simp; done) | (go_simp; rfl)); intro g48 hg w49 hbox hb; replace HS : Aside0 (Sep (fps []) w [b1 g48 a44 a45 a46 a47] w49) := ⟨HS.out.box hg hbox hb⟩; clear hg hbox hb; have hc51 : w49.cell? ⟨g48, 0, none⟩ = some (.int .i64 a44) := blk_cellv (HS.out.at0) 0 rfl))
  clear hc51
  obtain ⟨t63, HA64, H⟩ := bind_some H
  refine (plan_within.calls a44 1 1048576 t63 _ ⟨HGl0.out.pass (l := []) HS.out⟩ ⟨Sep.start _⟩ HA64).mono ?_
  rintro e_ w65 ⟨rfl, hS⟩
  replace HS : Aside0 (Sep (fps []) w [b1 g48 a44 a45 a46 a47] w65) := ⟨HS.out.call hS⟩
  clear hS
  by_cases c66 : t63 = true
  · replace H := if_yes c66 H
    have c66b0 : t63 = true := c66
    have c66b1 : (!t63) = false := by rw [c66b0]; rfl
    clear c66
    have hc67 : w65.cell? ⟨g48, 1, none⟩ = some (.int .i64 a45) := blk_cellv (HS.out.at0) 1 rfl
    go_wp2_with fail
    clear hc67
    obtain ⟨t68, HA69, H⟩ := bind_some H
    refine (plan_within.calls a45 16 256 t68 _ ⟨HGl0.out.pass (l := []) HS.out⟩ ⟨Sep.start _⟩ HA69).mono ?_
    rintro e_ w70 ⟨rfl, hS⟩
    replace HS : Aside0 (Sep (fps []) w [b1 g48 a44 a45 a46 a47] w70) := ⟨HS.out.call hS⟩
    clear hS
    by_cases c71 : t68 = true
    · replace H := if_yes c71 H
      have c71b0 : t68 = true := c71
      have c71b1 : (!t68) = false := by rw [c71b0]; rfl
      clear c71
      have hc72 : w70.cell? ⟨g48, 2, none⟩ = some (.int .i64 a46) := blk_cellv (HS.out.at0) 2 rfl
      go_wp2_with fail
      clear hc72
      obtain ⟨t73, HA74, H⟩ := bind_some H
      refine (plan_within.calls a46 1 4096 t73 _ ⟨HGl0.out.pass (l := []) HS.out⟩ ⟨Sep.start _⟩ HA74).mono ?_
      rintro e_ w75 ⟨rfl, hS⟩
      replace HS : Aside0 (Sep (fps []) w [b1 g48 a44 a45 a46 a47] w75) := ⟨HS.out.call hS⟩
      clear hS
      by_cases c76 : t73 = true
      · replace H := if_yes c76 H
        have c76b0 : t73 = true := c76
        have c76b1 : (!t73) = false := by rw [c76b0]; rfl
        clear c76
        have hc77 : w75.cell? ⟨g48, 3, none⟩ = some (.int .i64 a47) := blk_cellv (HS.out.at0) 3 rfl
        go_wp2_with fail
        clear hc77
        obtain ⟨t78, HA79, H⟩ := bind_some H
        refine (plan_within.calls a47 1 65536 t78 _ ⟨HGl0.out.pass (l := []) HS.out⟩ ⟨Sep.start _⟩ HA79).mono ?_
        rintro e_ w80 ⟨rfl, hS⟩
        replace HS : Aside0 (Sep (fps []) w [b1 g48 a44 a45 a46 a47] w80) := ⟨HS.out.call hS⟩
        clear hS
        by_cases c81 : t78 = true
        · replace H := if_yes c81 H
          have c81b0 : t78 = true := c81
          have c81b1 : (!t78) = false := by rw [c81b0]; rfl
          clear c81
          by_cases c84 : (wrap64 (a44 * a45)) ≤ 4194304
          · replace H := if_yes c84 H
            have c84b0 : decide ((wrap64 (a44 * a45)) ≤ 4194304) = true := decide_eq_true c84
            clear c84
            have hc82 : w80.cell? ⟨g48, 0, none⟩ = some (.int .i64 a44) := blk_cellv (HS.out.at0) 0 rfl
            have hc83 : w80.cell? ⟨g48, 1, none⟩ = some (.int .i64 a45) := blk_cellv (HS.out.at0) 1 rfl
            replace HS : Aside0 (Sep (fps []) w [] w80) := ⟨HS.out.sub (.cons _ .slnil)⟩
            go_wp2_with fail
            clear hc82 hc83
            go_ret
            rw [← some_eq H]
            exact ⟨(by first | rfl | (simp [IntKind.wrap_u32]; done)), HS.out⟩
          · replace H := if_no c84 H
            have c84b0 : decide ((wrap64 (a44 * a45)) ≤ 4194304) = false := decide_eq_false c84
            clear c84
            have hc82 : w80.cell? ⟨g48, 0, none⟩ = some (.int .i64 a44) := blk_cellv (HS.out.at0) 0 rfl
            have hc83 : w80.cell? ⟨g48, 1, none⟩ = some (.int .i64 a45) := blk_cellv (HS.out.at0) 1 rfl
            replace HS : Aside0 (Sep (fps []) w [] w80) := ⟨HS.out.sub (.cons _ .slnil)⟩
            go_wp2_with fail
            clear hc82 hc83
            go_ret
            rw [← some_eq H]
            exact ⟨(by first | rfl | (simp [IntKind.wrap_u32]; done)), HS.out⟩
        · replace H := if_no c81 H
          have c81b0 : t78 = false := by simpa using c81
          have c81b1 : (!t78) = true := by rw [c81b0]; rfl
          clear c81
          replace HS : Aside0 (Sep (fps []) w [] w80) := ⟨HS.out.sub (.cons _ .slnil)⟩
          go_wp2_with fail
          go_ret
          rw [← some_eq H]
          exact ⟨(by first | rfl | (simp [IntKind.wrap_u32]; done)), HS.out⟩
      · replace H := if_no c76 H
        have c76b0 : t73 = false := by simpa using c76
        have c76b1 : (!t73) = true := by rw [c76b0]; rfl
        clear c76
        replace HS : Aside0 (Sep (fps []) w [] w75) := ⟨HS.out.sub (.cons _ .slnil)⟩
        go_wp2_with fail
        go_ret
        rw [← some_eq H]
        exact ⟨(by first | rfl | (simp [IntKind.wrap_u32]; done)), HS.out⟩
    · replace H := if_no c71 H
      have c71b0 : t68 = false := by simpa using c71
      have c71b1 : (!t68) = true := by rw [c71b0]; rfl
      clear c71
      replace HS : Aside0 (Sep (fps []) w [] w70) := ⟨HS.out.sub (.cons _ .slnil)⟩
      go_wp2_with fail
      go_ret
      rw [← some_eq H]
      exact ⟨(by first | rfl | (simp [IntKind.wrap_u32]; done)), HS.out⟩
  · replace H := if_no c66 H
    have c66b0 : t63 = false := by simpa using c66
    have c66b1 : (!t63) = true := by rw [c66b0]; rfl
    clear c66
    replace HS : Aside0 (Sep (fps []) w [] w65) := ⟨HS.out.sub (.cons _ .slnil)⟩
    go_wp2_with fail
    go_ret
    rw [← some_eq H]
    exact ⟨(by first | rfl | (simp [IntKind.wrap_u32]; done)), HS.out⟩

set_option maxHeartbeats 30000000 in
set_option maxRecDepth 100000 in
theorem ratio_counts.calls (a117 : Int) (r : Int) (w : World)  (HGl0 : Aside0 (Gl 0 #[.int .i64 0, .int .i64 0, .int .i64 0, .int .i64 0, .int .i64 0] (fps []) w)) (HS : Aside0 (Sep (fps []) w [] w)) (H : Aside0 (ratio_counts.f a117 = some r)) :
    Calls Tryd.prog 148 #[.int .i64 a117] w fun e w' => e = .returned (.int .i64 r) ∧ Sep (fps []) w [] w' := by
  unfold ratio_counts.f at H
  go_enter Tryd.func148, Tryd.ntmps148
  go_wp2_with fail
  obtain ⟨t118, HA119, H⟩ := bind_some H
  refine (ratio_Clamp.calls a117 0 1125899906842624 t118 _ ⟨HGl0.out.pass (l := []) HS.out⟩ ⟨Sep.start _⟩ HA119).mono ?_
  rintro e_ w120 ⟨rfl, hS⟩
  replace HS : Aside0 (Sep (fps []) w [] w120) := ⟨HS.out.call hS⟩
  clear hS
  go_wp2_with fail
  go_ret
  rw [← some_eq H]
  exact ⟨(by first | rfl | (simp [IntKind.wrap_u32]; done)), HS.out⟩

set_option maxHeartbeats 30000000 in
set_option maxRecDepth 100000 in
theorem ratio_zero.calls (a116 : Int) (r : Bool) (w : World)  (HGl0 : Aside0 (Gl 0 #[.int .i64 0, .int .i64 0, .int .i64 0, .int .i64 0, .int .i64 0] (fps []) w)) (HS : Aside0 (Sep (fps []) w [] w)) (H : Aside0 (ratio_zero.f a116 = some r)) :
    Calls Tryd.prog 150 #[.int .i64 a116] w fun e w' => e = .returned (.bool r) ∧ Sep (fps []) w [] w' := by
  unfold ratio_zero.f at H
  go_enter Tryd.func150, Tryd.ntmps150
  go_wp2_with fail
  obtain ⟨t121, HA122, H⟩ := bind_some H
  refine (ratio_counts.calls a116 t121 _ ⟨HGl0.out.pass (l := []) HS.out⟩ ⟨Sep.start _⟩ HA122).mono ?_
  rintro e_ w123 ⟨rfl, hS⟩
  replace HS : Aside0 (Sep (fps []) w [] w123) := ⟨HS.out.call hS⟩
  clear hS
  go_wp2_with fail
  go_ret
  rw [← some_eq H]
  exact ⟨(by first | rfl | (simp [IntKind.wrap_u32]; done)), HS.out⟩

set_option maxHeartbeats 30000000 in
set_option maxRecDepth 100000 in
theorem slices_IndexFunc_int_int_F150.calls (k : Nat) (l102 : List Int) (A103 : Option Addr) (n104 : Nat) (r : Int) (w : World) (HR105 : Aside0 (Rd (Kd.int .i64) (fps []) w A103 l102.length l102)) (HGl0 : Aside0 (Gl 0 #[.int .i64 0, .int .i64 0, .int .i64 0, .int .i64 0, .int .i64 0] (fps []) w)) (HS : Aside0 (Sep (fps []) w [] w)) (H : Aside0 (slices_IndexFunc_int_int_F150.f k l102 = some r)) :
    Calls Tryd.prog 158 #[.slice A103 l102.length n104, .func (.func 150) #[] #[]] w fun e w' => e = .returned (.int .i64 r) ∧ Sep (fps []) w [] w' := by
  unfold slices_IndexFunc_int_int_F150.f at H
  go_enter Tryd.func158, Tryd.ntmps158
  go_wp2_with fail
  obtain ⟨o128, AL129, H⟩ := bind_some H
  go_loopg [8] k (fun kq v8 wc => ∃ (x132 : Int), v8 = .int .i64 x132 ∧ Aside0 (slices_IndexFunc_int_int_F150.lo0 kq l102 x132 = some o128) ∧ Aside0 (Sep (fps []) w [] wc))
  case atStart => exact ⟨(0), (by first | rfl | (simp [IntKind.wrap_u32]; done)), AL129, ⟨HS.out⟩⟩
  case round =>
    clear AL129 HS
    obtain ⟨x132, rfl, AL129, HS⟩ := hrel
    obtain ⟨w130, rfl⟩ : ∃ x : World, x = wr := ⟨_, rfl⟩
    cases gk with
    | zero => exact absurd AL129.out (by simp [slices_IndexFunc_int_int_F150.lo0])
    | succ k131 =>
      have AL0 := AL129.out
      rw [slices_IndexFunc_int_int_F150.lo0] at AL0
      clear AL129
      have AL129 := Aside0.mk AL0
      clear AL0
      by_cases c133 : x132 < (l102.length : Int)
      · replace AL129 := if_yes c133 AL129
        have c133b0 : decide (x132 < (l102.length : Int)) = true := decide_eq_true c133
        clear c133
        by_cases c134 : 0 ≤ x132
        · replace AL129 := if_yes c134 AL129
          have c134b0 : decide (0 ≤ x132) = true := decide_eq_true c134
          have c134p : (0 ≤ x132) = True := eq_true c134
          clear c134
          have ip135 : (x132 < (l102.length : Int)) = True := eq_true (of_decide_eq_true c133b0)
          obtain ⟨hx136a, hx136e, hx136⟩ := Kd.at_int (Rd.read (fun _ _ _ _ h => h) HR105.out HS.out.fr) x132 (of_decide_eq_true c134b0) (of_decide_eq_true c133b0); cases hx136e
          go_wp2_with fail
          clear hx136
          obtain ⟨t124, HA137, AL129⟩ := bind_some AL129
          refine (ratio_zero.calls (rd l102 x132) t124 _ ⟨HGl0.out.pass (l := []) HS.out⟩ ⟨Sep.start _⟩ HA137).mono ?_
          rintro e_ w138 ⟨rfl, hS⟩
          replace HS : Aside0 (Sep (fps []) w [] w138) := ⟨HS.out.call hS⟩
          clear hS
          by_cases c139 : t124 = true
          · replace AL129 := if_yes c139 AL129
            have c139b0 : t124 = true := c139
            have c139b1 : (!t124) = false := by rw [c139b0]; rfl
            clear c139
            go_wp2_with fail
            have ho := some_eq AL129
            subst ho
            have H := lp_ret H
            go_ret
            rw [← some_eq H]
            exact ⟨(by first | rfl | (simp [IntKind.wrap_u32]; done)), HS.out⟩
          · replace AL129 := if_no c139 AL129
            have c139b0 : t124 = false := by simpa using c139
            have c139b1 : (!t124) = true := by rw [c139b0]; rfl
            clear c139
            go_wp2_with fail
            go_roundg k131
            case measure => exact Nat.lt_succ_self _
            case rel => exact ⟨(wrap64 (x132 + 1)), (by first | rfl | (simp [IntKind.wrap_u32]; done)), Aside0.mk AL129.out, ⟨HS.out⟩⟩
        · replace AL129 := if_no c134 AL129
          have c134b0 : decide (0 ≤ x132) = false := decide_eq_false c134
          clear c134
          exact (none_no AL129).elim
      · replace AL129 := if_no c133 AL129
        have c133b0 : decide (x132 < (l102.length : Int)) = false := decide_eq_false c133
        clear c133
        have ho := some_eq AL129
        subst ho
        clear AL129
        have H := lp_out H
        go_wp2_with fail
        go_ret
        rw [← some_eq H]
        exact ⟨(by first | rfl | (simp [IntKind.wrap_u32]; done)), HS.out⟩

set_option maxHeartbeats 30000000 in
set_option maxRecDepth 100000 in
theorem slices_ContainsFunc_int_int_F150.calls (k : Nat) (l98 : List Int) (A99 : Option Addr) (n100 : Nat) (r : Bool) (w : World) (HR101 : Aside0 (Rd (Kd.int .i64) (fps []) w A99 l98.length l98)) (HGl0 : Aside0 (Gl 0 #[.int .i64 0, .int .i64 0, .int .i64 0, .int .i64 0, .int .i64 0] (fps []) w)) (HS : Aside0 (Sep (fps []) w [] w)) (H : Aside0 (slices_ContainsFunc_int_int_F150.f k l98 = some r)) :
    Calls Tryd.prog 149 #[.slice A99 l98.length n100, .func (.func 150) #[] #[]] w fun e w' => e = .returned (.bool r) ∧ Sep (fps []) w [] w' := by
  unfold slices_ContainsFunc_int_int_F150.f at H
  go_enter Tryd.func149, Tryd.ntmps149
  go_wp2_with fail
  obtain ⟨t141, HA142, H⟩ := bind_some H
  refine (slices_IndexFunc_int_int_F150.calls _ l98 A99 n100 t141 _ ⟨Rd.pass (l := []) (by decide) (fun _ _ _ _ h => h) HR101.out HS.out⟩ ⟨HGl0.out.pass (l := []) HS.out⟩ ⟨Sep.start _⟩ HA142).mono ?_
  rintro e_ w143 ⟨rfl, hS⟩
  replace HS : Aside0 (Sep (fps []) w [] w143) := ⟨HS.out.call hS⟩
  clear hS
  go_wp2_with fail
  go_ret
  rw [← some_eq H]
  exact ⟨(by first | rfl | (simp [IntKind.wrap_u32]; done)), HS.out⟩

set_option maxHeartbeats 30000000 in
set_option maxRecDepth 100000 in
theorem ratio_Mul.calls (k : Nat) (l94 : List Int) (A95 : Option Addr) (n96 : Nat) (r : Int) (w : World) (HR97 : Aside0 (Rd (Kd.int .i64) (fps []) w A95 l94.length l94)) (HGl0 : Aside0 (Gl 0 #[.int .i64 0, .int .i64 0, .int .i64 0, .int .i64 0, .int .i64 0] (fps []) w)) (HS : Aside0 (Sep (fps []) w [] w)) (H : Aside0 (ratio_Mul.f k l94 = some r)) :
    Calls Tryd.prog 123 #[.slice A95 l94.length n96] w fun e w' => e = .returned (.int .i64 r) ∧ Sep (fps []) w [] w' := by
  unfold ratio_Mul.f at H
  go_enter Tryd.func123, Tryd.ntmps123
  go_wp2_with fail
  obtain ⟨t144, HA145, H⟩ := bind_some H
  refine (slices_ContainsFunc_int_int_F150.calls _ l94 A95 n96 t144 _ ⟨Rd.pass (l := []) (by decide) (fun _ _ _ _ h => h) HR97.out HS.out⟩ ⟨HGl0.out.pass (l := []) HS.out⟩ ⟨Sep.start _⟩ HA145).mono ?_
  rintro e_ w146 ⟨rfl, hS⟩
  replace HS : Aside0 (Sep (fps []) w [] w146) := ⟨HS.out.call hS⟩
  clear hS
  by_cases c147 : t144 = true
  · replace H := if_yes c147 H
    have c147b0 : t144 = true := c147
    have c147b1 : (!t144) = false := by rw [c147b0]; rfl
    clear c147
    go_wp2_with fail
    go_ret
    rw [← some_eq H]
    exact ⟨(by first | rfl | (simp [IntKind.wrap_u32]; done)), HS.out⟩
  · replace H := if_no c147 H
    have c147b0 : t144 = false := by simpa using c147
    have c147b1 : (!t144) = true := by rw [c147b0]; rfl
    clear c147
    go_wp2_with fail
    obtain ⟨o149, AL150, H⟩ := bind_some H
    go_loopg [3, 11] k (fun kq v3 v11 wc => ∃ (x153 : Int) (x154 : Int), v3 = .int .i64 x153 ∧ v11 = .int .i64 x154 ∧ Aside0 (ratio_Mul.lo0 kq l94 x153 x154 = some o149) ∧ Aside0 (Sep (fps []) w [] wc))
    case atStart => exact ⟨(1), (0), (by first | rfl | (simp [IntKind.wrap_u32]; done)), (by first | rfl | (simp [IntKind.wrap_u32]; done)), AL150, ⟨HS.out⟩⟩
    case round =>
      clear AL150 HS
      obtain ⟨x153, x154, rfl, rfl, AL150, HS⟩ := hrel
      obtain ⟨w151, rfl⟩ : ∃ x : World, x = wr := ⟨_, rfl⟩
      cases gk with
      | zero => exact absurd AL150.out (by simp [ratio_Mul.lo0])
      | succ k152 =>
        have AL0 := AL150.out
        rw [ratio_Mul.lo0] at AL0
        clear AL150
        have AL150 := Aside0.mk AL0
        clear AL0
        by_cases c155 : x154 < (l94.length : Int)
        · replace AL150 := if_yes c155 AL150
          have c155b0 : decide (x154 < (l94.length : Int)) = true := decide_eq_true c155
          clear c155
          by_cases c156 : 0 ≤ x154
          · replace AL150 := if_yes c156 AL150
            have c156b0 : decide (0 ≤ x154) = true := decide_eq_true c156
            have c156p : (0 ≤ x154) = True := eq_true c156
            clear c156
            have ip157 : (x154 < (l94.length : Int)) = True := eq_true (of_decide_eq_true c155b0)
            obtain ⟨hx158a, hx158e, hx158⟩ := Kd.at_int (Rd.read (fun _ _ _ _ h => h) HR97.out HS.out.fr) x154 (of_decide_eq_true c156b0) (of_decide_eq_true c155b0); cases hx158e
            go_wp2_with fail
            clear hx158
            obtain ⟨t159, HA160, AL150⟩ := bind_some AL150
            refine (ratio_counts.calls (rd l94 x154) t159 _ ⟨HGl0.out.pass (l := []) HS.out⟩ ⟨Sep.start _⟩ HA160).mono ?_
            rintro e_ w161 ⟨rfl, hS⟩
            replace HS : Aside0 (Sep (fps []) w [] w161) := ⟨HS.out.call hS⟩
            clear hS
            by_cases c162 : t159 = 0
            · replace AL150 := if_yes c162 AL150
              have c162b0 : (t159 == 0) = true := beq_iff_eq.mpr c162
              have c162b1 : (t159 != 0) = false := bne_eq_false_iff_eq.mpr c162
              exact (none_no AL150).elim
            · replace AL150 := if_no c162 AL150
              have c162b0 : (t159 == 0) = false := beq_eq_false_iff_ne.mpr c162
              have c162b1 : (t159 != 0) = true := bne_iff_ne.mpr c162
              by_cases c163 : x153 ≤ (wrap64 (Int.tdiv (1125899906842624 : Int) t159))
              · replace AL150 := if_yes c163 AL150
                have c163b0 : decide (x153 ≤ (wrap64 (Int.tdiv (1125899906842624 : Int) t159))) = true := decide_eq_true c163
                clear c163
                skip
                go_wp2_with fail
                clear c162
                go_roundg k152
                case measure => exact Nat.lt_succ_self _
                case rel => exact ⟨(wrap64 (x153 * t159)), (wrap64 (x154 + 1)), (by first | rfl | (simp [IntKind.wrap_u32]; done)), (by first | rfl | (simp [IntKind.wrap_u32]; done)), Aside0.mk AL150.out, ⟨HS.out⟩⟩
              · replace AL150 := if_no c163 AL150
                have c163b0 : decide (x153 ≤ (wrap64 (Int.tdiv (1125899906842624 : Int) t159))) = false := decide_eq_false c163
                clear c163
                skip
                go_wp2_with fail
                clear c162
                go_roundg k152
                case measure => exact Nat.lt_succ_self _
                case rel => exact ⟨(1125899906842624), (wrap64 (x154 + 1)), (by first | rfl | (simp [IntKind.wrap_u32]; done)), (by first | rfl | (simp [IntKind.wrap_u32]; done)), Aside0.mk AL150.out, ⟨HS.out⟩⟩
          · replace AL150 := if_no c156 AL150
            have c156b0 : decide (0 ≤ x154) = false := decide_eq_false c156
            clear c156
            exact (none_no AL150).elim
        · replace AL150 := if_no c155 AL150
          have c155b0 : decide (x154 < (l94.length : Int)) = false := decide_eq_false c155
          clear c155
          have ho := some_eq AL150
          subst ho
          clear AL150
          go_wp2_with fail
          go_ret
          rw [← some_eq H]
          exact ⟨(by first | rfl | (simp [IntKind.wrap_u32]; done)), HS.out⟩

set_option maxHeartbeats 30000000 in
set_option maxRecDepth 100000 in
theorem ratio_Add.calls (k : Nat) (l171 : List Int) (A172 : Option Addr) (n173 : Nat) (r : Int) (w : World) (HR174 : Aside0 (Rd (Kd.int .i64) (fps []) w A172 l171.length l171)) (HGl0 : Aside0 (Gl 0 #[.int .i64 0, .int .i64 0, .int .i64 0, .int .i64 0, .int .i64 0] (fps []) w)) (HS : Aside0 (Sep (fps []) w [] w)) (H : Aside0 (ratio_Add.f k l171 = some r)) :
    Calls Tryd.prog 122 #[.slice A172 l171.length n173] w fun e w' => e = .returned (.int .i64 r) ∧ Sep (fps []) w [] w' := by
  unfold ratio_Add.f at H
  go_enter Tryd.func122, Tryd.ntmps122
  go_wp2_with fail
  obtain ⟨o176, AL177, H⟩ := bind_some H
  go_loopg [3, 8] k (fun kq v3 v8 wc => ∃ (x180 : Int) (x181 : Int), v3 = .int .i64 x180 ∧ v8 = .int .i64 x181 ∧ Aside0 (ratio_Add.lo0 kq l171 x180 x181 = some o176) ∧ Aside0 (Sep (fps []) w [] wc))
  case atStart => exact ⟨(0), (0), (by first | rfl | (simp [IntKind.wrap_u32]; done)), (by first | rfl | (simp [IntKind.wrap_u32]; done)), AL177, ⟨HS.out⟩⟩
  case round =>
    clear AL177 HS
    obtain ⟨x180, x181, rfl, rfl, AL177, HS⟩ := hrel
    obtain ⟨w178, rfl⟩ : ∃ x : World, x = wr := ⟨_, rfl⟩
    cases gk with
    | zero => exact absurd AL177.out (by simp [ratio_Add.lo0])
    | succ k179 =>
      have AL0 := AL177.out
      rw [ratio_Add.lo0] at AL0
      clear AL177
      have AL177 := Aside0.mk AL0
      clear AL0
      by_cases c182 : x181 < (l171.length : Int)
      · replace AL177 := if_yes c182 AL177
        have c182b0 : decide (x181 < (l171.length : Int)) = true := decide_eq_true c182
        clear c182
        by_cases c183 : 0 ≤ x181
        · replace AL177 := if_yes c183 AL177
          have c183b0 : decide (0 ≤ x181) = true := decide_eq_true c183
          have c183p : (0 ≤ x181) = True := eq_true c183
          clear c183
          have ip184 : (x181 < (l171.length : Int)) = True := eq_true (of_decide_eq_true c182b0)
          obtain ⟨hx185a, hx185e, hx185⟩ := Kd.at_int (Rd.read (fun _ _ _ _ h => h) HR174.out HS.out.fr) x181 (of_decide_eq_true c183b0) (of_decide_eq_true c182b0); cases hx185e
          go_wp2_with fail
          clear hx185
          obtain ⟨t186, HA187, AL177⟩ := bind_some AL177
          refine (ratio_counts.calls (rd l171 x181) t186 _ ⟨HGl0.out.pass (l := []) HS.out⟩ ⟨Sep.start _⟩ HA187).mono ?_
          rintro e_ w188 ⟨rfl, hS⟩
          replace HS : Aside0 (Sep (fps []) w [] w188) := ⟨HS.out.call hS⟩
          clear hS
          by_cases c189 : 1125899906842624 < (wrap64 (x180 + t186))
          · replace AL177 := if_yes c189 AL177
            have c189b0 : decide (1125899906842624 < (wrap64 (x180 + t186))) = true := decide_eq_true c189
            skip
            go_wp2_with fail
            clear c189
            go_roundg k179
            case measure => exact Nat.lt_succ_self _
            case rel => exact ⟨(1125899906842624), (wrap64 (x181 + 1)), (by first | rfl | (simp [IntKind.wrap_u32]; done)), (by first | rfl | (simp [IntKind.wrap_u32]; done)), Aside0.mk AL177.out, ⟨HS.out⟩⟩
          · replace AL177 := if_no c189 AL177
            have c189b0 : decide (1125899906842624 < (wrap64 (x180 + t186))) = false := decide_eq_false c189
            skip
            go_wp2_with fail
            clear c189
            go_roundg k179
            case measure => exact Nat.lt_succ_self _
            case rel => exact ⟨(wrap64 (x180 + t186)), (wrap64 (x181 + 1)), (by first | rfl | (simp [IntKind.wrap_u32]; done)), (by first | rfl | (simp [IntKind.wrap_u32]; done)), Aside0.mk AL177.out, ⟨HS.out⟩⟩
        · replace AL177 := if_no c183 AL177
          have c183b0 : decide (0 ≤ x181) = false := decide_eq_false c183
          clear c183
          exact (none_no AL177).elim
      · replace AL177 := if_no c182 AL177
        have c182b0 : decide (x181 < (l171.length : Int)) = false := decide_eq_false c182
        clear c182
        have ho := some_eq AL177
        subst ho
        clear AL177
        go_wp2_with fail
        go_ret
        rw [← some_eq H]
        exact ⟨(by first | rfl | (simp [IntKind.wrap_u32]; done)), HS.out⟩

set_option maxHeartbeats 30000000 in
set_option maxRecDepth 100000 in
theorem ratio_by.calls (a400 : Int) (r : Int) (w : World)  (HGl0 : Aside0 (Gl 0 #[.int .i64 0, .int .i64 0, .int .i64 0, .int .i64 0, .int .i64 0] (fps []) w)) (HS : Aside0 (Sep (fps []) w [] w)) (H : Aside0 (ratio_by.f a400 = some r)) :
    Calls Tryd.prog 151 #[.int .i64 a400] w fun e w' => e = .returned (.int .i64 r) ∧ Sep (fps []) w [] w' := by
  unfold ratio_by.f at H
  go_enter Tryd.func151, Tryd.ntmps151
  go_wp2_with fail
  obtain ⟨t401, HA402, H⟩ := bind_some H
  refine (ratio_counts.calls a400 t401 _ ⟨HGl0.out.pass (l := []) HS.out⟩ ⟨Sep.start _⟩ HA402).mono ?_
  rintro e_ w403 ⟨rfl, hS⟩
  replace HS : Aside0 (Sep (fps []) w [] w403) := ⟨HS.out.call hS⟩
  clear hS
  by_cases c404 : t401 < 1
  · replace H := if_yes c404 H
    have c404b0 : decide (t401 < 1) = true := decide_eq_true c404
    skip
    go_wp2_with fail
    clear c404
    go_ret
    rw [← some_eq H]
    exact ⟨(by first | rfl | (simp [IntKind.wrap_u32]; done)), HS.out⟩
  · replace H := if_no c404 H
    have c404b0 : decide (t401 < 1) = false := decide_eq_false c404
    skip
    go_wp2_with fail
    clear c404
    go_ret
    rw [← some_eq H]
    exact ⟨(by first | rfl | (simp [IntKind.wrap_u32]; done)), HS.out⟩

set_option maxHeartbeats 30000000 in
set_option maxRecDepth 100000 in
theorem ratio_Up.calls (a395 : Int) (a396 : Int) (r : Int) (w : World)  (HGl0 : Aside0 (Gl 0 #[.int .i64 0, .int .i64 0, .int .i64 0, .int .i64 0, .int .i64 0] (fps []) w)) (HS : Aside0 (Sep (fps []) w [] w)) (H : Aside0 (ratio_Up.f a395 a396 = some r)) :
    Calls Tryd.prog 124 #[.int .i64 a395, .int .i64 a396] w fun e w' => e = .returned (.int .i64 r) ∧ Sep (fps []) w [] w' := by
  unfold ratio_Up.f at H
  go_enter Tryd.func124, Tryd.ntmps124
  go_wp2_with fail
  obtain ⟨t397, HA398, H⟩ := bind_some H
  refine (ratio_counts.calls a395 t397 _ ⟨HGl0.out.pass (l := []) HS.out⟩ ⟨Sep.start _⟩ HA398).mono ?_
  rintro e_ w399 ⟨rfl, hS⟩
  replace HS : Aside0 (Sep (fps []) w [] w399) := ⟨HS.out.call hS⟩
  clear hS
  go_wp2_with fail
  obtain ⟨t405, HA406, H⟩ := bind_some H
  refine (ratio_by.calls a396 t405 _ ⟨HGl0.out.pass (l := []) HS.out⟩ ⟨Sep.start _⟩ HA406).mono ?_
  rintro e_ w407 ⟨rfl, hS⟩
  replace HS : Aside0 (Sep (fps []) w [] w407) := ⟨HS.out.call hS⟩
  clear hS
  go_wp2_with fail
  obtain ⟨t408, HA409, H⟩ := bind_some H
  refine (ratio_by.calls a396 t408 _ ⟨HGl0.out.pass (l := []) HS.out⟩ ⟨Sep.start _⟩ HA409).mono ?_
  rintro e_ w410 ⟨rfl, hS⟩
  replace HS : Aside0 (Sep (fps []) w [] w410) := ⟨HS.out.call hS⟩
  clear hS
  by_cases c411 : t408 = 0
  · replace H := if_yes c411 H
    have c411b0 : (t408 == 0) = true := beq_iff_eq.mpr c411
    have c411b1 : (t408 != 0) = false := bne_eq_false_iff_eq.mpr c411
    exact (none_no H).elim
  · replace H := if_no c411 H
    have c411b0 : (t408 == 0) = false := beq_eq_false_iff_ne.mpr c411
    have c411b1 : (t408 != 0) = true := bne_iff_ne.mpr c411
    skip
    go_wp2_with fail
    clear c411
    go_ret
    rw [← some_eq H]
    exact ⟨(by first | rfl | (simp [IntKind.wrap_u32]; done)), HS.out⟩

set_option maxHeartbeats 30000000 in
set_option maxRecDepth 100000 in
theorem plan_Of.calls (k : Nat) (a30 : Int) (a31 : Int) (a32 : Int) (a33 : Int) (r : Int × Int × Int × Int × Int × Int × Int × Int × Int) (w : World)  (HGl0 : Aside0 (Gl 0 #[.int .i64 0, .int .i64 0, .int .i64 0, .int .i64 0, .int .i64 0] (fps []) w)) (HS : Aside0 (Sep (fps []) w [] w)) (H : Aside0 (plan_Of.f k a30 a31 a32 a33 = some r)) :
    Calls Tryd.prog 65 #[.agg #[.int .i64 a30, .int .i64 a31, .int .i64 a32, .int .i64 a33]] w fun e w' => e = .returned (.tuple #[.agg #[.int .i64 r.1, .int .i64 r.2.1, .int .i64 r.2.2.1, .int .i64 r.2.2.2.1, .int .i64 r.2.2.2.2.1, .int .i64 r.2.2.2.2.2.1, .int .i64 r.2.2.2.2.2.2.1, .int .i64 r.2.2.2.2.2.2.2.1], .int .i64 r.2.2.2.2.2.2.2.2]) ∧ Sep (fps []) w [] w' := by
  unfold plan_Of.f at H
  go_enter Tryd.func65, Tryd.ntmps65
  go_wp2_with (first | ((with_reducible refine gate_dst (N := 1) rfl ?_); refine box_on ?hg (N := 1) ?hd (cs := #[.int .i64 a30, .int .i64 a31, .int .i64 a32, .int .i64 a33]) (t := 30) ?hr ?_; (case hd => rfl); (case hg => rfl); (case hr => first | (go_simp; done) | (go_simp; rfl)); intro g34 hg w35 hbox hb; replace HS : Aside0 (Sep (fps []) w [b1 g34 a30 a31 a32 a33] w35) := ⟨HS.out.box hg hbox hb⟩; clear hg hbox hb) | ((with_reducible refine gate_dst (N := 2) rfl ?_); refine box_on ?hg (N := 2) ?hd (cs := #[.int .i64 0, .int .i64 0, .int .i64 0, .int .i64 0, .int .i64 0, .int .i64 0, .int .i64 0, .int .i64 0]) (t := 97) ?hr ?_; (case hd => rfl); (case hg => rfl); (case hr => first | (go_simp; done) | (go_simp; rfl)); intro g37 hg w38 hbox hb; replace HS : Aside0 (Sep (fps []) w [b1 g34 a30 a31 a32 a33, b2 g37 0 0 0 0 0 0 0 0] w38) := ⟨HS.out.box hg hbox hb⟩; clear hg hbox hb; have hc40 : w38.cell? ⟨g34, 0, none⟩ = some (.int .i64 a30) := blk_cellv (HS.out.at0) 0 rfl; have hc41 : w38.cell? ⟨g34, 1, none⟩ = some (.int .i64 a31) := blk_cellv (HS.out.at0) 1 rfl; have hc42 : w38.cell? ⟨g34, 2, none⟩ = some (.int .i64 a32) := blk_cellv (HS.out.at0) 2 rfl; have hc43 : w38.cell? ⟨g34, 3, none⟩ = some (.int .i64 a33) := blk_cellv (HS.out.at0) 3 rfl))
  clear hc40 hc41 hc42 hc43
  obtain ⟨t85, HA86, H⟩ := bind_some H
  refine (plan_Check.calls a30 a31 a32 a33 t85 _ ⟨HGl0.out.pass (l := []) HS.out⟩ ⟨Sep.start _⟩ HA86).mono ?_
  rintro e_ w87 ⟨rfl, hS⟩
  replace HS : Aside0 (Sep (fps []) w [b1 g34 a30 a31 a32 a33, b2 g37 0 0 0 0 0 0 0 0] w87) := ⟨HS.out.call hS⟩
  clear hS
  by_cases c88 : t85 = 0
  · replace H := if_yes c88 H
    have c88b0 : (t85 == 0) = true := beq_iff_eq.mpr c88
    have c88b1 : (t85 != 0) = false := bne_eq_false_iff_eq.mpr c88
    clear c88
    go_wp2_with fail
    obtain ⟨t165, HA166, H⟩ := bind_some H
    obtain ⟨t191, HA192, H⟩ := bind_some H
    go_cut [5] (fun v5 wc => ∃ (g91 : Nat) (g168 : Nat) (g194 : Nat), v5 = .pointer (some ⟨g194, 0, none⟩) ∧ Aside0 (Sep (fps []) w [b1 g34 a30 a31 a32 a33, b2 g37 0 0 0 0 0 0 0 0, b3 g91 a30 a31, b4 g168 24 a32 t165, b2 g194 t191 (wrap64 (a31 - 8)) 0 0 0 0 0 0] wc))
    case first =>
      go_wp2_with fail
      refine start_ (n := 16) (S := (fun w' => w'.cell? ⟨g34, 2, none⟩ = some (.int .i64 a32) ∧ w'.cell? ⟨g34, 0, none⟩ = some (.int .i64 a30) ∧ w'.cell? ⟨g34, 1, none⟩ = some (.int .i64 a31))) (ds := []) #[false, false, false, false, false, false, false, false, false, false, false, false, false, false, false, false] (by kernel_rfl) rfl rfl (⟨blk_cellv ((HS.out.drew).at0) 2 rfl, blk_cellv ((HS.out.drew).at0) 0 rfl, blk_cellv ((HS.out.drew).at0) 1 rfl⟩) (fun hHeld => ?_)
      have HS_ := Aside0.mk HS.out.drew
      clear HS
      generalize World.drew _ = w216 at HS_ hHeld ⊢
      have HS := HS_
      clear HS_
      refine pure_ (i := 0) (N := some 12) (v := ?_) (a' := ?_) #[true, false, false, false, false, false, false, false, false, false, false, false, false, false, false, false] rfl rfl (by kernel_rfl) (fun _ _ _ h => h) (Or.inl ⟨by rfl, ?_⟩) ?_ ?_
      rotate_left
      · intro w'
        go_simp
        with_reducible rfl
      rotate_left
      · simp only [Act.put, List.setIfInBounds_toArray, List.set_cons_zero, List.set_cons_succ, i64_w, i32_w]
        rfl
      refine pure_ (i := 2) (N := some 14) (v := ?_) (a' := ?_) #[true, false, true, false, false, false, false, false, false, false, false, false, false, false, false, false] rfl rfl (by kernel_rfl) (fun _ _ _ h => h) (Or.inl ⟨by rfl, ?_⟩) ?_ ?_
      rotate_left
      · intro w'
        go_simp
        with_reducible rfl
      rotate_left
      · simp only [Act.put, List.setIfInBounds_toArray, List.set_cons_zero, List.set_cons_succ, i64_w, i32_w]
        rfl
      refine pure_ (i := 4) (N := some 16) (v := ?_) (a' := ?_) #[true, false, true, false, true, false, false, false, false, false, false, false, false, false, false, false] rfl rfl (by kernel_rfl) (fun _ _ _ h => h) (Or.inl ⟨by rfl, ?_⟩) ?_ ?_
      rotate_left
      · intro w'
        go_simp
        with_reducible rfl
      rotate_left
      · simp only [Act.put, List.setIfInBounds_toArray, List.set_cons_zero, List.set_cons_succ, i64_w, i32_w]
        rfl
      refine pure_ (i := 10) (N := some 22) (v := ?_) (a' := ?_) #[true, false, true, false, true, false, false, false, false, false, true, false, false, false, false, false] rfl rfl (by kernel_rfl) (fun _ _ _ h => h) (Or.inl ⟨by rfl, ?_⟩) ?_ ?_
      rotate_left
      · intro w'
        go_simp
        with_reducible rfl
      rotate_left
      · simp only [Act.put, List.setIfInBounds_toArray, List.set_cons_zero, List.set_cons_succ, i64_w, i32_w]
        rfl
      refine take_ (i := 1) (N := some 13) (v := ?_) (a' := ?_) #[true, true, true, false, true, false, false, false, false, false, true, false, false, false, false, false] rfl rfl (by kernel_rfl) (fun _ _ _ h => h) (Or.inl ⟨by rfl, ?_⟩) hHeld ?_ ?_
      rotate_left
      · rintro w' hS'
        obtain ⟨s0, s1, s2⟩ := hS'
        go_simp
        with_reducible rfl
      rotate_left
      · simp only [Act.put, List.setIfInBounds_toArray, List.set_cons_zero, List.set_cons_succ, i64_w, i32_w]
        rfl
      refine take_ (i := 3) (N := some 15) (v := ?_) (a' := ?_) #[true, true, true, true, true, false, false, false, false, false, true, false, false, false, false, false] rfl rfl (by kernel_rfl) (fun _ _ _ h => h) (Or.inl ⟨by rfl, ?_⟩) hHeld ?_ ?_
      rotate_left
      · rintro w' hS'
        obtain ⟨s0, s1, s2⟩ := hS'
        go_simp
        with_reducible rfl
      rotate_left
      · simp only [Act.put, List.setIfInBounds_toArray, List.set_cons_zero, List.set_cons_succ, i64_w, i32_w]
        rfl
      refine take_ (i := 5) (N := some 17) (v := ?_) (a' := ?_) #[true, true, true, true, true, true, false, false, false, false, true, false, false, false, false, false] rfl rfl (by kernel_rfl) (fun _ _ _ h => h) (Or.inl ⟨by rfl, ?_⟩) hHeld ?_ ?_
      rotate_left
      · rintro w' hS'
        obtain ⟨s0, s1, s2⟩ := hS'
        go_simp
        with_reducible rfl
      rotate_left
      · simp only [Act.put, List.setIfInBounds_toArray, List.set_cons_zero, List.set_cons_succ, i64_w, i32_w]
        rfl
      refine take_ (i := 11) (N := some 23) (v := ?_) (a' := ?_) #[true, true, true, true, true, true, false, false, false, false, true, true, false, false, false, false] rfl rfl (by kernel_rfl) (fun _ _ _ h => h) (Or.inl ⟨by rfl, ?_⟩) hHeld ?_ ?_
      rotate_left
      · rintro w' hS'
        obtain ⟨s0, s1, s2⟩ := hS'
        go_simp
        with_reducible rfl
      rotate_left
      · simp only [Act.put, List.setIfInBounds_toArray, List.set_cons_zero, List.set_cons_succ, i64_w, i32_w]
        rfl
      refine pure_ (i := 12) (N := some 24) (v := ?_) (a' := ?_) #[true, true, true, true, true, true, false, false, false, false, true, true, true, false, false, false] rfl rfl (by kernel_rfl) (fun _ _ _ h => h) (Or.inl ⟨by rfl, ?_⟩) ?_ ?_
      rotate_left
      · intro w'
        go_simp
        with_reducible rfl
      rotate_left
      · simp only [Act.put, List.setIfInBounds_toArray, List.set_cons_zero, List.set_cons_succ, i64_w, i32_w]
        rfl
      refine two_ (i := 6) (j := 14) (Ni := some 18) (Nj := some 5) #[true, true, true, true, true, true, true, false, false, false, true, true, true, false, false, false] #[true, true, true, true, true, true, false, false, false, false, true, true, true, false, true, false] rfl rfl rfl rfl (by kernel_rfl) (by decide) (by decide) (fun K hK => ?_) (fun K hK => ?_)
      · refine slice_step (n := 2) (by rfl) (N := 18) rfl (cs := #[.int .i64 a30, .int .i64 a31]) (t := 3) ?hr ?_
        case hr => first | (go_simp; done) | (go_simp; rfl)
        intro g217 hg w218 hbox hb
        replace HS : Aside0 (Sep (fps []) w [b1 g34 a30 a31 a32 a33, b2 g37 0 0 0 0 0 0 0 0, b3 g217 a30 a31] w218) := ⟨HS.out.box hg hbox hb⟩
        clear hg hbox hb
        refine hK.out _ _ (⟨blk_cellv (HS.out.at0) 2 rfl, blk_cellv (HS.out.at0) 0 rfl, blk_cellv (HS.out.at0) 1 rfl⟩) (fun hHeld => ?_)
        clear hK K
        refine norm_ (a' := ?_) ?_ ?_
        rotate_left
        · show Act.put _ (some 18) _ = _
          simp only [Act.put, List.setIfInBounds_toArray, List.set_cons_zero, List.set_cons_succ, i64_w, i32_w]
          rfl
        refine two_ (i := 7) (j := 14) (Ni := some 19) (Nj := some 5) #[true, true, true, true, true, true, true, true, false, false, true, true, true, false, false, false] #[true, true, true, true, true, true, true, false, false, false, true, true, true, false, true, false] rfl rfl rfl rfl (by kernel_rfl) (by decide) (by decide) (fun K hK => ?_) (fun K hK => ?_)
        · refine goes_ Tryd.func123 (by kernel_rfl) rfl #[.slice (some ⟨g217, 0, none⟩) 2 2] (by rfl) rfl rfl (by (try simp only [List.map_toArray, List.map_cons, List.map_nil]); first | done | rfl) ?_
          refine (ratio_Mul.calls _ [a30, a31] (some ⟨g217, 0, none⟩) 2 t165 _ ⟨Rd.lit (l := []) (xs := [a30, a31]) HS.out 2 rfl (by simp)⟩ ⟨HGl0.out.pass (l := []) HS.out⟩ ⟨Sep.start _⟩ HA166).mono ?_
          rintro e_ w221 ⟨rfl, hS⟩
          replace HS : Aside0 (Sep (fps []) w [b1 g34 a30 a31 a32 a33, b2 g37 0 0 0 0 0 0 0 0, b3 g217 a30 a31] w221) := ⟨HS.out.call hS⟩
          clear hS
          refine ⟨_, rfl, ?_⟩
          refine hK.out _ _ (⟨blk_cellv (HS.out.at0) 2 rfl, blk_cellv (HS.out.at0) 0 rfl, blk_cellv (HS.out.at0) 1 rfl⟩) (fun hHeld => ?_)
          clear hK K
          refine norm_ (a' := ?_) ?_ ?_
          rotate_left
          · show Act.put _ (some 19) _ = _
            simp only [Act.put, List.setIfInBounds_toArray, List.set_cons_zero, List.set_cons_succ, i64_w, i32_w]
            rfl
          refine two_ (i := 8) (j := 14) (Ni := some 20) (Nj := some 5) #[true, true, true, true, true, true, true, true, true, false, true, true, true, false, false, false] #[true, true, true, true, true, true, true, true, false, false, true, true, true, false, true, false] rfl rfl rfl rfl (by kernel_rfl) (by decide) (by decide) (fun K hK => ?_) (fun K hK => ?_)
          · refine slice_step (n := 3) (by rfl) (N := 20) rfl (cs := #[.int .i64 24, .int .i64 a32, .int .i64 t165]) (t := 3) ?hr ?_
            case hr => first | (go_simp; done) | (go_simp; rfl)
            intro g222 hg w223 hbox hb
            replace HS : Aside0 (Sep (fps []) w [b1 g34 a30 a31 a32 a33, b2 g37 0 0 0 0 0 0 0 0, b3 g217 a30 a31, b4 g222 24 a32 t165] w223) := ⟨HS.out.box hg hbox hb⟩
            clear hg hbox hb
            refine hK.out _ _ (⟨blk_cellv (HS.out.at0) 2 rfl, blk_cellv (HS.out.at0) 0 rfl, blk_cellv (HS.out.at0) 1 rfl⟩) (fun hHeld => ?_)
            clear hK K
            refine norm_ (a' := ?_) ?_ ?_
            rotate_left
            · show Act.put _ (some 20) _ = _
              simp only [Act.put, List.setIfInBounds_toArray, List.set_cons_zero, List.set_cons_succ, i64_w, i32_w]
              rfl
            refine two_ (i := 9) (j := 14) (Ni := some 21) (Nj := some 5) #[true, true, true, true, true, true, true, true, true, true, true, true, true, false, false, false] #[true, true, true, true, true, true, true, true, true, false, true, true, true, false, true, false] rfl rfl rfl rfl (by kernel_rfl) (by decide) (by decide) (fun K hK => ?_) (fun K hK => ?_)
            · refine goes_ Tryd.func122 (by kernel_rfl) rfl #[.slice (some ⟨g222, 0, none⟩) 3 3] (by rfl) rfl rfl (by (try simp only [List.map_toArray, List.map_cons, List.map_nil]); first | done | rfl) ?_
              refine (ratio_Add.calls _ [24, a32, t165] (some ⟨g222, 0, none⟩) 3 t191 _ ⟨Rd.lit (l := []) (xs := [24, a32, t165]) HS.out 3 rfl (by simp)⟩ ⟨HGl0.out.pass (l := []) HS.out⟩ ⟨Sep.start _⟩ HA192).mono ?_
              rintro e_ w226 ⟨rfl, hS⟩
              replace HS : Aside0 (Sep (fps []) w [b1 g34 a30 a31 a32 a33, b2 g37 0 0 0 0 0 0 0 0, b3 g217 a30 a31, b4 g222 24 a32 t165] w226) := ⟨HS.out.call hS⟩
              clear hS
              refine ⟨_, rfl, ?_⟩
              refine hK.out _ _ (⟨blk_cellv (HS.out.at0) 2 rfl, blk_cellv (HS.out.at0) 0 rfl, blk_cellv (HS.out.at0) 1 rfl⟩) (fun hHeld => ?_)
              clear hK K
              refine norm_ (a' := ?_) ?_ ?_
              rotate_left
              · show Act.put _ (some 21) _ = _
                simp only [Act.put, List.setIfInBounds_toArray, List.set_cons_zero, List.set_cons_succ, i64_w, i32_w]
                rfl
              refine pure_ (i := 13) (N := some 25) (v := ?_) (a' := ?_) #[true, true, true, true, true, true, true, true, true, true, true, true, true, true, false, false] rfl rfl (by kernel_rfl) (fun _ _ _ h => h) (Or.inl ⟨by rfl, ?_⟩) ?_ ?_
              rotate_left
              · intro w'
                go_simp
                with_reducible rfl
              rotate_left
              · simp only [Act.put, List.setIfInBounds_toArray, List.set_cons_zero, List.set_cons_succ, i64_w, i32_w]
                rfl
              refine one_ (i := 14) (N := some 5) #[true, true, true, true, true, true, true, true, true, true, true, true, true, true, true, false] rfl rfl (by kernel_rfl) (by decide) (fun K hK => ?_)
              refine box_step (by rfl) (N := 5) rfl (cs := #[.int .i64 0, .int .i64 0, .int .i64 0, .int .i64 0, .int .i64 0, .int .i64 0, .int .i64 0, .int .i64 0]) (t := 97) ?hr ?_
              case hr => first | (go_simp; done) | (go_simp; rfl)
              intro g227 hg w228 hbox hb
              replace HS : Aside0 (Sep (fps []) w [b1 g34 a30 a31 a32 a33, b2 g37 0 0 0 0 0 0 0 0, b3 g217 a30 a31, b4 g222 24 a32 t165, b2 g227 0 0 0 0 0 0 0 0] w228) := ⟨HS.out.box hg hbox hb⟩
              clear hg hbox hb
              refine hK.out _ _ (⟨blk_cellv (HS.out.at0) 2 rfl, blk_cellv (HS.out.at0) 0 rfl, blk_cellv (HS.out.at0) 1 rfl⟩) (fun hHeld => ?_)
              clear hK K
              refine norm_ (a' := ?_) ?_ ?_
              rotate_left
              · show Act.put _ (some 5) _ = _
                simp only [Act.put, List.setIfInBounds_toArray, List.set_cons_zero, List.set_cons_succ, i64_w, i32_w]
                rfl
              refine one_ (i := 15) (N := none) #[true, true, true, true, true, true, true, true, true, true, true, true, true, true, true, true] rfl rfl (by kernel_rfl) (by decide) (fun K hK => ?_)
              have hc231 := blk_cellv (v := .int .i64 0) (HS.out.at4) 0 rfl
              have hz232 := blk_fz (HS.out.at4) 0
              have hc233 := blk_cellv (v := .int .i64 0) (HS.out.at4) 1 rfl
              have hz234 := blk_fz (HS.out.at4) 1
              have hc235 := blk_cellv (v := .int .i64 0) (HS.out.at4) 2 rfl
              have hz236 := blk_fz (HS.out.at4) 2
              have hc237 := blk_cellv (v := .int .i64 0) (HS.out.at4) 3 rfl
              have hz238 := blk_fz (HS.out.at4) 3
              have hc239 := blk_cellv (v := .int .i64 0) (HS.out.at4) 4 rfl
              have hz240 := blk_fz (HS.out.at4) 4
              have hc241 := blk_cellv (v := .int .i64 0) (HS.out.at4) 5 rfl
              have hz242 := blk_fz (HS.out.at4) 5
              have hc243 := blk_cellv (v := .int .i64 0) (HS.out.at4) 6 rfl
              have hz244 := blk_fz (HS.out.at4) 6
              have hc245 := blk_cellv (v := .int .i64 0) (HS.out.at4) 7 rfl
              have hz246 := blk_fz (HS.out.at4) 7
              refine store_step (w1 := (World.setCell (World.setCell (World.setCell (World.setCell (World.setCell (World.setCell (World.setCell (World.setCell w228 ⟨g227, 0, none⟩ (.int .i64 t191)) ⟨g227, 1, none⟩ (.int .i64 (wrap64 (a31 - 8)))) ⟨g227, 2, none⟩ (.int .i64 0)) ⟨g227, 3, none⟩ (.int .i64 0)) ⟨g227, 4, none⟩ (.int .i64 0)) ⟨g227, 5, none⟩ (.int .i64 0)) ⟨g227, 6, none⟩ (.int .i64 0)) ⟨g227, 7, none⟩ (.int .i64 0))) (by rfl) rfl ?hr ?_
              case hr => first | (go_simp; done) | (go_simp; rfl)
              clear hc231 hz232 hc233 hz234 hc235 hz236 hc237 hz238 hc239 hz240 hc241 hz242 hc243 hz244 hc245 hz246
              intro w230 hst
              replace HS : Aside0 (Sep (fps []) w [b1 g34 a30 a31 a32 a33, b2 g37 0 0 0 0 0 0 0 0, b3 g217 a30 a31, b4 g222 24 a32 t165, b2 g227 t191 (wrap64 (a31 - 8)) 0 0 0 0 0 0] w230) := ⟨by rw [hst]; exact HS.out.setAll (l1 := [b1 g34 a30 a31 a32 a33, b2 g37 0 0 0 0 0 0 0 0, b3 g217 a30 a31, b4 g222 24 a32 t165]) (l2 := []) [.int .i64 t191, .int .i64 (wrap64 (a31 - 8)), .int .i64 0, .int .i64 0, .int .i64 0, .int .i64 0, .int .i64 0, .int .i64 0] rfl⟩
              clear hst
              refine hK.out _ _ (⟨blk_cellv (HS.out.at0) 2 rfl, blk_cellv (HS.out.at0) 0 rfl, blk_cellv (HS.out.at0) 1 rfl⟩) (fun hHeld => ?_)
              clear hK K
              refine done_ (by kernel_rfl) ?_
              go_wp2_with fail
              go_meet
              case rel => exact ⟨g217, g222, g227, (by first | rfl | (simp [IntKind.wrap_u32]; done)), ⟨(((((HS.out).front 4 (by simp)).front 4 (by simp)).front 4 (by simp)).front 4 (by simp)).front 4 (by simp)⟩⟩
            · refine box_step (by rfl) (N := 5) rfl (cs := #[.int .i64 0, .int .i64 0, .int .i64 0, .int .i64 0, .int .i64 0, .int .i64 0, .int .i64 0, .int .i64 0]) (t := 97) ?hr ?_
              case hr => first | (go_simp; done) | (go_simp; rfl)
              intro g247 hg w248 hbox hb
              replace HS : Aside0 (Sep (fps []) w [b1 g34 a30 a31 a32 a33, b2 g37 0 0 0 0 0 0 0 0, b3 g217 a30 a31, b4 g222 24 a32 t165, b2 g247 0 0 0 0 0 0 0 0] w248) := ⟨HS.out.box hg hbox hb⟩
              clear hg hbox hb
              refine hK.out _ _ (⟨blk_cellv (HS.out.at0) 2 rfl, blk_cellv (HS.out.at0) 0 rfl, blk_cellv (HS.out.at0) 1 rfl⟩) (fun hHeld => ?_)
              clear hK K
              refine norm_ (a' := ?_) ?_ ?_
              rotate_left
              · show Act.put _ (some 5) _ = _
                simp only [Act.put, List.setIfInBounds_toArray, List.set_cons_zero, List.set_cons_succ, i64_w, i32_w]
                rfl
              refine one_ (i := 9) (N := some 21) #[true, true, true, true, true, true, true, true, true, true, true, true, true, false, true, false] rfl rfl (by kernel_rfl) (by decide) (fun K hK => ?_)
              refine goes_ Tryd.func122 (by kernel_rfl) rfl #[.slice (some ⟨g222, 0, none⟩) 3 3] (by rfl) rfl rfl (by (try simp only [List.map_toArray, List.map_cons, List.map_nil]); first | done | rfl) ?_
              refine (ratio_Add.calls _ [24, a32, t165] (some ⟨g222, 0, none⟩) 3 t191 _ ⟨Rd.lit (l := []) (xs := [24, a32, t165]) HS.out 3 rfl (by simp)⟩ ⟨HGl0.out.pass (l := []) HS.out⟩ ⟨Sep.start _⟩ HA192).mono ?_
              rintro e_ w251 ⟨rfl, hS⟩
              replace HS : Aside0 (Sep (fps []) w [b1 g34 a30 a31 a32 a33, b2 g37 0 0 0 0 0 0 0 0, b3 g217 a30 a31, b4 g222 24 a32 t165, b2 g247 0 0 0 0 0 0 0 0] w251) := ⟨HS.out.call hS⟩
              clear hS
              refine ⟨_, rfl, ?_⟩
              refine hK.out _ _ (⟨blk_cellv (HS.out.at0) 2 rfl, blk_cellv (HS.out.at0) 0 rfl, blk_cellv (HS.out.at0) 1 rfl⟩) (fun hHeld => ?_)
              clear hK K
              refine norm_ (a' := ?_) ?_ ?_
              rotate_left
              · show Act.put _ (some 21) _ = _
                simp only [Act.put, List.setIfInBounds_toArray, List.set_cons_zero, List.set_cons_succ, i64_w, i32_w]
                rfl
              refine pure_ (i := 13) (N := some 25) (v := ?_) (a' := ?_) #[true, true, true, true, true, true, true, true, true, true, true, true, true, true, true, false] rfl rfl (by kernel_rfl) (fun _ _ _ h => h) (Or.inl ⟨by rfl, ?_⟩) ?_ ?_
              rotate_left
              · intro w'
                go_simp
                with_reducible rfl
              rotate_left
              · simp only [Act.put, List.setIfInBounds_toArray, List.set_cons_zero, List.set_cons_succ, i64_w, i32_w]
                rfl
              refine one_ (i := 15) (N := none) #[true, true, true, true, true, true, true, true, true, true, true, true, true, true, true, true] rfl rfl (by kernel_rfl) (by decide) (fun K hK => ?_)
              have hc253 := blk_cellv (v := .int .i64 0) (HS.out.at4) 0 rfl
              have hz254 := blk_fz (HS.out.at4) 0
              have hc255 := blk_cellv (v := .int .i64 0) (HS.out.at4) 1 rfl
              have hz256 := blk_fz (HS.out.at4) 1
              have hc257 := blk_cellv (v := .int .i64 0) (HS.out.at4) 2 rfl
              have hz258 := blk_fz (HS.out.at4) 2
              have hc259 := blk_cellv (v := .int .i64 0) (HS.out.at4) 3 rfl
              have hz260 := blk_fz (HS.out.at4) 3
              have hc261 := blk_cellv (v := .int .i64 0) (HS.out.at4) 4 rfl
              have hz262 := blk_fz (HS.out.at4) 4
              have hc263 := blk_cellv (v := .int .i64 0) (HS.out.at4) 5 rfl
              have hz264 := blk_fz (HS.out.at4) 5
              have hc265 := blk_cellv (v := .int .i64 0) (HS.out.at4) 6 rfl
              have hz266 := blk_fz (HS.out.at4) 6
              have hc267 := blk_cellv (v := .int .i64 0) (HS.out.at4) 7 rfl
              have hz268 := blk_fz (HS.out.at4) 7
              refine store_step (w1 := (World.setCell (World.setCell (World.setCell (World.setCell (World.setCell (World.setCell (World.setCell (World.setCell w251 ⟨g247, 0, none⟩ (.int .i64 t191)) ⟨g247, 1, none⟩ (.int .i64 (wrap64 (a31 - 8)))) ⟨g247, 2, none⟩ (.int .i64 0)) ⟨g247, 3, none⟩ (.int .i64 0)) ⟨g247, 4, none⟩ (.int .i64 0)) ⟨g247, 5, none⟩ (.int .i64 0)) ⟨g247, 6, none⟩ (.int .i64 0)) ⟨g247, 7, none⟩ (.int .i64 0))) (by rfl) rfl ?hr ?_
              case hr => first | (go_simp; done) | (go_simp; rfl)
              clear hc253 hz254 hc255 hz256 hc257 hz258 hc259 hz260 hc261 hz262 hc263 hz264 hc265 hz266 hc267 hz268
              intro w252 hst
              replace HS : Aside0 (Sep (fps []) w [b1 g34 a30 a31 a32 a33, b2 g37 0 0 0 0 0 0 0 0, b3 g217 a30 a31, b4 g222 24 a32 t165, b2 g247 t191 (wrap64 (a31 - 8)) 0 0 0 0 0 0] w252) := ⟨by rw [hst]; exact HS.out.setAll (l1 := [b1 g34 a30 a31 a32 a33, b2 g37 0 0 0 0 0 0 0 0, b3 g217 a30 a31, b4 g222 24 a32 t165]) (l2 := []) [.int .i64 t191, .int .i64 (wrap64 (a31 - 8)), .int .i64 0, .int .i64 0, .int .i64 0, .int .i64 0, .int .i64 0, .int .i64 0] rfl⟩
              clear hst
              refine hK.out _ _ (⟨blk_cellv (HS.out.at0) 2 rfl, blk_cellv (HS.out.at0) 0 rfl, blk_cellv (HS.out.at0) 1 rfl⟩) (fun hHeld => ?_)
              clear hK K
              refine done_ (by kernel_rfl) ?_
              go_wp2_with fail
              go_meet
              case rel => exact ⟨g217, g222, g247, (by first | rfl | (simp [IntKind.wrap_u32]; done)), ⟨(((((HS.out).front 4 (by simp)).front 4 (by simp)).front 4 (by simp)).front 4 (by simp)).front 4 (by simp)⟩⟩
          · refine box_step (by rfl) (N := 5) rfl (cs := #[.int .i64 0, .int .i64 0, .int .i64 0, .int .i64 0, .int .i64 0, .int .i64 0, .int .i64 0, .int .i64 0]) (t := 97) ?hr ?_
            case hr => first | (go_simp; done) | (go_simp; rfl)
            intro g269 hg w270 hbox hb
            replace HS : Aside0 (Sep (fps []) w [b1 g34 a30 a31 a32 a33, b2 g37 0 0 0 0 0 0 0 0, b3 g217 a30 a31, b2 g269 0 0 0 0 0 0 0 0] w270) := ⟨HS.out.box hg hbox hb⟩
            clear hg hbox hb
            refine hK.out _ _ (⟨blk_cellv (HS.out.at0) 2 rfl, blk_cellv (HS.out.at0) 0 rfl, blk_cellv (HS.out.at0) 1 rfl⟩) (fun hHeld => ?_)
            clear hK K
            refine norm_ (a' := ?_) ?_ ?_
            rotate_left
            · show Act.put _ (some 5) _ = _
              simp only [Act.put, List.setIfInBounds_toArray, List.set_cons_zero, List.set_cons_succ, i64_w, i32_w]
              rfl
            refine one_ (i := 8) (N := some 20) #[true, true, true, true, true, true, true, true, true, false, true, true, true, false, true, false] rfl rfl (by kernel_rfl) (by decide) (fun K hK => ?_)
            refine slice_step (n := 3) (by rfl) (N := 20) rfl (cs := #[.int .i64 24, .int .i64 a32, .int .i64 t165]) (t := 3) ?hr ?_
            case hr => first | (go_simp; done) | (go_simp; rfl)
            intro g272 hg w273 hbox hb
            replace HS : Aside0 (Sep (fps []) w [b1 g34 a30 a31 a32 a33, b2 g37 0 0 0 0 0 0 0 0, b3 g217 a30 a31, b2 g269 0 0 0 0 0 0 0 0, b4 g272 24 a32 t165] w273) := ⟨HS.out.box hg hbox hb⟩
            clear hg hbox hb
            refine hK.out _ _ (⟨blk_cellv (HS.out.at0) 2 rfl, blk_cellv (HS.out.at0) 0 rfl, blk_cellv (HS.out.at0) 1 rfl⟩) (fun hHeld => ?_)
            clear hK K
            refine norm_ (a' := ?_) ?_ ?_
            rotate_left
            · show Act.put _ (some 20) _ = _
              simp only [Act.put, List.setIfInBounds_toArray, List.set_cons_zero, List.set_cons_succ, i64_w, i32_w]
              rfl
            refine one_ (i := 9) (N := some 21) #[true, true, true, true, true, true, true, true, true, true, true, true, true, false, true, false] rfl rfl (by kernel_rfl) (by decide) (fun K hK => ?_)
            refine goes_ Tryd.func122 (by kernel_rfl) rfl #[.slice (some ⟨g272, 0, none⟩) 3 3] (by rfl) rfl rfl (by (try simp only [List.map_toArray, List.map_cons, List.map_nil]); first | done | rfl) ?_
            refine (ratio_Add.calls _ [24, a32, t165] (some ⟨g272, 0, none⟩) 3 t191 _ ⟨Rd.lit (l := []) (xs := [24, a32, t165]) HS.out 4 rfl (by simp)⟩ ⟨HGl0.out.pass (l := []) HS.out⟩ ⟨Sep.start _⟩ HA192).mono ?_
            rintro e_ w276 ⟨rfl, hS⟩
            replace HS : Aside0 (Sep (fps []) w [b1 g34 a30 a31 a32 a33, b2 g37 0 0 0 0 0 0 0 0, b3 g217 a30 a31, b2 g269 0 0 0 0 0 0 0 0, b4 g272 24 a32 t165] w276) := ⟨HS.out.call hS⟩
            clear hS
            refine ⟨_, rfl, ?_⟩
            refine hK.out _ _ (⟨blk_cellv (HS.out.at0) 2 rfl, blk_cellv (HS.out.at0) 0 rfl, blk_cellv (HS.out.at0) 1 rfl⟩) (fun hHeld => ?_)
            clear hK K
            refine norm_ (a' := ?_) ?_ ?_
            rotate_left
            · show Act.put _ (some 21) _ = _
              simp only [Act.put, List.setIfInBounds_toArray, List.set_cons_zero, List.set_cons_succ, i64_w, i32_w]
              rfl
            refine pure_ (i := 13) (N := some 25) (v := ?_) (a' := ?_) #[true, true, true, true, true, true, true, true, true, true, true, true, true, true, true, false] rfl rfl (by kernel_rfl) (fun _ _ _ h => h) (Or.inl ⟨by rfl, ?_⟩) ?_ ?_
            rotate_left
            · intro w'
              go_simp
              with_reducible rfl
            rotate_left
            · simp only [Act.put, List.setIfInBounds_toArray, List.set_cons_zero, List.set_cons_succ, i64_w, i32_w]
              rfl
            refine one_ (i := 15) (N := none) #[true, true, true, true, true, true, true, true, true, true, true, true, true, true, true, true] rfl rfl (by kernel_rfl) (by decide) (fun K hK => ?_)
            have hc278 := blk_cellv (v := .int .i64 0) (HS.out.at3) 0 rfl
            have hz279 := blk_fz (HS.out.at3) 0
            have hc280 := blk_cellv (v := .int .i64 0) (HS.out.at3) 1 rfl
            have hz281 := blk_fz (HS.out.at3) 1
            have hc282 := blk_cellv (v := .int .i64 0) (HS.out.at3) 2 rfl
            have hz283 := blk_fz (HS.out.at3) 2
            have hc284 := blk_cellv (v := .int .i64 0) (HS.out.at3) 3 rfl
            have hz285 := blk_fz (HS.out.at3) 3
            have hc286 := blk_cellv (v := .int .i64 0) (HS.out.at3) 4 rfl
            have hz287 := blk_fz (HS.out.at3) 4
            have hc288 := blk_cellv (v := .int .i64 0) (HS.out.at3) 5 rfl
            have hz289 := blk_fz (HS.out.at3) 5
            have hc290 := blk_cellv (v := .int .i64 0) (HS.out.at3) 6 rfl
            have hz291 := blk_fz (HS.out.at3) 6
            have hc292 := blk_cellv (v := .int .i64 0) (HS.out.at3) 7 rfl
            have hz293 := blk_fz (HS.out.at3) 7
            refine store_step (w1 := (World.setCell (World.setCell (World.setCell (World.setCell (World.setCell (World.setCell (World.setCell (World.setCell w276 ⟨g269, 0, none⟩ (.int .i64 t191)) ⟨g269, 1, none⟩ (.int .i64 (wrap64 (a31 - 8)))) ⟨g269, 2, none⟩ (.int .i64 0)) ⟨g269, 3, none⟩ (.int .i64 0)) ⟨g269, 4, none⟩ (.int .i64 0)) ⟨g269, 5, none⟩ (.int .i64 0)) ⟨g269, 6, none⟩ (.int .i64 0)) ⟨g269, 7, none⟩ (.int .i64 0))) (by rfl) rfl ?hr ?_
            case hr => first | (go_simp; done) | (go_simp; rfl)
            clear hc278 hz279 hc280 hz281 hc282 hz283 hc284 hz285 hc286 hz287 hc288 hz289 hc290 hz291 hc292 hz293
            intro w277 hst
            replace HS : Aside0 (Sep (fps []) w [b1 g34 a30 a31 a32 a33, b2 g37 0 0 0 0 0 0 0 0, b3 g217 a30 a31, b2 g269 t191 (wrap64 (a31 - 8)) 0 0 0 0 0 0, b4 g272 24 a32 t165] w277) := ⟨by rw [hst]; exact HS.out.setAll (l1 := [b1 g34 a30 a31 a32 a33, b2 g37 0 0 0 0 0 0 0 0, b3 g217 a30 a31]) (l2 := [b4 g272 24 a32 t165]) [.int .i64 t191, .int .i64 (wrap64 (a31 - 8)), .int .i64 0, .int .i64 0, .int .i64 0, .int .i64 0, .int .i64 0, .int .i64 0] rfl⟩
            clear hst
            refine hK.out _ _ (⟨blk_cellv (HS.out.at0) 2 rfl, blk_cellv (HS.out.at0) 0 rfl, blk_cellv (HS.out.at0) 1 rfl⟩) (fun hHeld => ?_)
            clear hK K
            refine done_ (by kernel_rfl) ?_
            go_wp2_with fail
            go_meet
            case rel => exact ⟨g217, g272, g269, (by first | rfl | (simp [IntKind.wrap_u32]; done)), ⟨(((((HS.out).front 3 (by simp)).front 4 (by simp)).front 4 (by simp)).front 4 (by simp)).front 4 (by simp)⟩⟩
        · refine box_step (by rfl) (N := 5) rfl (cs := #[.int .i64 0, .int .i64 0, .int .i64 0, .int .i64 0, .int .i64 0, .int .i64 0, .int .i64 0, .int .i64 0]) (t := 97) ?hr ?_
          case hr => first | (go_simp; done) | (go_simp; rfl)
          intro g294 hg w295 hbox hb
          replace HS : Aside0 (Sep (fps []) w [b1 g34 a30 a31 a32 a33, b2 g37 0 0 0 0 0 0 0 0, b3 g217 a30 a31, b2 g294 0 0 0 0 0 0 0 0] w295) := ⟨HS.out.box hg hbox hb⟩
          clear hg hbox hb
          refine hK.out _ _ (⟨blk_cellv (HS.out.at0) 2 rfl, blk_cellv (HS.out.at0) 0 rfl, blk_cellv (HS.out.at0) 1 rfl⟩) (fun hHeld => ?_)
          clear hK K
          refine norm_ (a' := ?_) ?_ ?_
          rotate_left
          · show Act.put _ (some 5) _ = _
            simp only [Act.put, List.setIfInBounds_toArray, List.set_cons_zero, List.set_cons_succ, i64_w, i32_w]
            rfl
          refine one_ (i := 7) (N := some 19) #[true, true, true, true, true, true, true, true, false, false, true, true, true, false, true, false] rfl rfl (by kernel_rfl) (by decide) (fun K hK => ?_)
          refine goes_ Tryd.func123 (by kernel_rfl) rfl #[.slice (some ⟨g217, 0, none⟩) 2 2] (by rfl) rfl rfl (by (try simp only [List.map_toArray, List.map_cons, List.map_nil]); first | done | rfl) ?_
          refine (ratio_Mul.calls _ [a30, a31] (some ⟨g217, 0, none⟩) 2 t165 _ ⟨Rd.lit (l := []) (xs := [a30, a31]) HS.out 2 rfl (by simp)⟩ ⟨HGl0.out.pass (l := []) HS.out⟩ ⟨Sep.start _⟩ HA166).mono ?_
          rintro e_ w298 ⟨rfl, hS⟩
          replace HS : Aside0 (Sep (fps []) w [b1 g34 a30 a31 a32 a33, b2 g37 0 0 0 0 0 0 0 0, b3 g217 a30 a31, b2 g294 0 0 0 0 0 0 0 0] w298) := ⟨HS.out.call hS⟩
          clear hS
          refine ⟨_, rfl, ?_⟩
          refine hK.out _ _ (⟨blk_cellv (HS.out.at0) 2 rfl, blk_cellv (HS.out.at0) 0 rfl, blk_cellv (HS.out.at0) 1 rfl⟩) (fun hHeld => ?_)
          clear hK K
          refine norm_ (a' := ?_) ?_ ?_
          rotate_left
          · show Act.put _ (some 19) _ = _
            simp only [Act.put, List.setIfInBounds_toArray, List.set_cons_zero, List.set_cons_succ, i64_w, i32_w]
            rfl
          refine one_ (i := 8) (N := some 20) #[true, true, true, true, true, true, true, true, true, false, true, true, true, false, true, false] rfl rfl (by kernel_rfl) (by decide) (fun K hK => ?_)
          refine slice_step (n := 3) (by rfl) (N := 20) rfl (cs := #[.int .i64 24, .int .i64 a32, .int .i64 t165]) (t := 3) ?hr ?_
          case hr => first | (go_simp; done) | (go_simp; rfl)
          intro g299 hg w300 hbox hb
          replace HS : Aside0 (Sep (fps []) w [b1 g34 a30 a31 a32 a33, b2 g37 0 0 0 0 0 0 0 0, b3 g217 a30 a31, b2 g294 0 0 0 0 0 0 0 0, b4 g299 24 a32 t165] w300) := ⟨HS.out.box hg hbox hb⟩
          clear hg hbox hb
          refine hK.out _ _ (⟨blk_cellv (HS.out.at0) 2 rfl, blk_cellv (HS.out.at0) 0 rfl, blk_cellv (HS.out.at0) 1 rfl⟩) (fun hHeld => ?_)
          clear hK K
          refine norm_ (a' := ?_) ?_ ?_
          rotate_left
          · show Act.put _ (some 20) _ = _
            simp only [Act.put, List.setIfInBounds_toArray, List.set_cons_zero, List.set_cons_succ, i64_w, i32_w]
            rfl
          refine one_ (i := 9) (N := some 21) #[true, true, true, true, true, true, true, true, true, true, true, true, true, false, true, false] rfl rfl (by kernel_rfl) (by decide) (fun K hK => ?_)
          refine goes_ Tryd.func122 (by kernel_rfl) rfl #[.slice (some ⟨g299, 0, none⟩) 3 3] (by rfl) rfl rfl (by (try simp only [List.map_toArray, List.map_cons, List.map_nil]); first | done | rfl) ?_
          refine (ratio_Add.calls _ [24, a32, t165] (some ⟨g299, 0, none⟩) 3 t191 _ ⟨Rd.lit (l := []) (xs := [24, a32, t165]) HS.out 4 rfl (by simp)⟩ ⟨HGl0.out.pass (l := []) HS.out⟩ ⟨Sep.start _⟩ HA192).mono ?_
          rintro e_ w303 ⟨rfl, hS⟩
          replace HS : Aside0 (Sep (fps []) w [b1 g34 a30 a31 a32 a33, b2 g37 0 0 0 0 0 0 0 0, b3 g217 a30 a31, b2 g294 0 0 0 0 0 0 0 0, b4 g299 24 a32 t165] w303) := ⟨HS.out.call hS⟩
          clear hS
          refine ⟨_, rfl, ?_⟩
          refine hK.out _ _ (⟨blk_cellv (HS.out.at0) 2 rfl, blk_cellv (HS.out.at0) 0 rfl, blk_cellv (HS.out.at0) 1 rfl⟩) (fun hHeld => ?_)
          clear hK K
          refine norm_ (a' := ?_) ?_ ?_
          rotate_left
          · show Act.put _ (some 21) _ = _
            simp only [Act.put, List.setIfInBounds_toArray, List.set_cons_zero, List.set_cons_succ, i64_w, i32_w]
            rfl
          refine pure_ (i := 13) (N := some 25) (v := ?_) (a' := ?_) #[true, true, true, true, true, true, true, true, true, true, true, true, true, true, true, false] rfl rfl (by kernel_rfl) (fun _ _ _ h => h) (Or.inl ⟨by rfl, ?_⟩) ?_ ?_
          rotate_left
          · intro w'
            go_simp
            with_reducible rfl
          rotate_left
          · simp only [Act.put, List.setIfInBounds_toArray, List.set_cons_zero, List.set_cons_succ, i64_w, i32_w]
            rfl
          refine one_ (i := 15) (N := none) #[true, true, true, true, true, true, true, true, true, true, true, true, true, true, true, true] rfl rfl (by kernel_rfl) (by decide) (fun K hK => ?_)
          have hc305 := blk_cellv (v := .int .i64 0) (HS.out.at3) 0 rfl
          have hz306 := blk_fz (HS.out.at3) 0
          have hc307 := blk_cellv (v := .int .i64 0) (HS.out.at3) 1 rfl
          have hz308 := blk_fz (HS.out.at3) 1
          have hc309 := blk_cellv (v := .int .i64 0) (HS.out.at3) 2 rfl
          have hz310 := blk_fz (HS.out.at3) 2
          have hc311 := blk_cellv (v := .int .i64 0) (HS.out.at3) 3 rfl
          have hz312 := blk_fz (HS.out.at3) 3
          have hc313 := blk_cellv (v := .int .i64 0) (HS.out.at3) 4 rfl
          have hz314 := blk_fz (HS.out.at3) 4
          have hc315 := blk_cellv (v := .int .i64 0) (HS.out.at3) 5 rfl
          have hz316 := blk_fz (HS.out.at3) 5
          have hc317 := blk_cellv (v := .int .i64 0) (HS.out.at3) 6 rfl
          have hz318 := blk_fz (HS.out.at3) 6
          have hc319 := blk_cellv (v := .int .i64 0) (HS.out.at3) 7 rfl
          have hz320 := blk_fz (HS.out.at3) 7
          refine store_step (w1 := (World.setCell (World.setCell (World.setCell (World.setCell (World.setCell (World.setCell (World.setCell (World.setCell w303 ⟨g294, 0, none⟩ (.int .i64 t191)) ⟨g294, 1, none⟩ (.int .i64 (wrap64 (a31 - 8)))) ⟨g294, 2, none⟩ (.int .i64 0)) ⟨g294, 3, none⟩ (.int .i64 0)) ⟨g294, 4, none⟩ (.int .i64 0)) ⟨g294, 5, none⟩ (.int .i64 0)) ⟨g294, 6, none⟩ (.int .i64 0)) ⟨g294, 7, none⟩ (.int .i64 0))) (by rfl) rfl ?hr ?_
          case hr => first | (go_simp; done) | (go_simp; rfl)
          clear hc305 hz306 hc307 hz308 hc309 hz310 hc311 hz312 hc313 hz314 hc315 hz316 hc317 hz318 hc319 hz320
          intro w304 hst
          replace HS : Aside0 (Sep (fps []) w [b1 g34 a30 a31 a32 a33, b2 g37 0 0 0 0 0 0 0 0, b3 g217 a30 a31, b2 g294 t191 (wrap64 (a31 - 8)) 0 0 0 0 0 0, b4 g299 24 a32 t165] w304) := ⟨by rw [hst]; exact HS.out.setAll (l1 := [b1 g34 a30 a31 a32 a33, b2 g37 0 0 0 0 0 0 0 0, b3 g217 a30 a31]) (l2 := [b4 g299 24 a32 t165]) [.int .i64 t191, .int .i64 (wrap64 (a31 - 8)), .int .i64 0, .int .i64 0, .int .i64 0, .int .i64 0, .int .i64 0, .int .i64 0] rfl⟩
          clear hst
          refine hK.out _ _ (⟨blk_cellv (HS.out.at0) 2 rfl, blk_cellv (HS.out.at0) 0 rfl, blk_cellv (HS.out.at0) 1 rfl⟩) (fun hHeld => ?_)
          clear hK K
          refine done_ (by kernel_rfl) ?_
          go_wp2_with fail
          go_meet
          case rel => exact ⟨g217, g299, g294, (by first | rfl | (simp [IntKind.wrap_u32]; done)), ⟨(((((HS.out).front 3 (by simp)).front 4 (by simp)).front 4 (by simp)).front 4 (by simp)).front 4 (by simp)⟩⟩
      · refine box_step (by rfl) (N := 5) rfl (cs := #[.int .i64 0, .int .i64 0, .int .i64 0, .int .i64 0, .int .i64 0, .int .i64 0, .int .i64 0, .int .i64 0]) (t := 97) ?hr ?_
        case hr => first | (go_simp; done) | (go_simp; rfl)
        intro g321 hg w322 hbox hb
        replace HS : Aside0 (Sep (fps []) w [b1 g34 a30 a31 a32 a33, b2 g37 0 0 0 0 0 0 0 0, b2 g321 0 0 0 0 0 0 0 0] w322) := ⟨HS.out.box hg hbox hb⟩
        clear hg hbox hb
        refine hK.out _ _ (⟨blk_cellv (HS.out.at0) 2 rfl, blk_cellv (HS.out.at0) 0 rfl, blk_cellv (HS.out.at0) 1 rfl⟩) (fun hHeld => ?_)
        clear hK K
        refine norm_ (a' := ?_) ?_ ?_
        rotate_left
        · show Act.put _ (some 5) _ = _
          simp only [Act.put, List.setIfInBounds_toArray, List.set_cons_zero, List.set_cons_succ, i64_w, i32_w]
          rfl
        refine one_ (i := 6) (N := some 18) #[true, true, true, true, true, true, true, false, false, false, true, true, true, false, true, false] rfl rfl (by kernel_rfl) (by decide) (fun K hK => ?_)
        refine slice_step (n := 2) (by rfl) (N := 18) rfl (cs := #[.int .i64 a30, .int .i64 a31]) (t := 3) ?hr ?_
        case hr => first | (go_simp; done) | (go_simp; rfl)
        intro g324 hg w325 hbox hb
        replace HS : Aside0 (Sep (fps []) w [b1 g34 a30 a31 a32 a33, b2 g37 0 0 0 0 0 0 0 0, b2 g321 0 0 0 0 0 0 0 0, b3 g324 a30 a31] w325) := ⟨HS.out.box hg hbox hb⟩
        clear hg hbox hb
        refine hK.out _ _ (⟨blk_cellv (HS.out.at0) 2 rfl, blk_cellv (HS.out.at0) 0 rfl, blk_cellv (HS.out.at0) 1 rfl⟩) (fun hHeld => ?_)
        clear hK K
        refine norm_ (a' := ?_) ?_ ?_
        rotate_left
        · show Act.put _ (some 18) _ = _
          simp only [Act.put, List.setIfInBounds_toArray, List.set_cons_zero, List.set_cons_succ, i64_w, i32_w]
          rfl
        refine one_ (i := 7) (N := some 19) #[true, true, true, true, true, true, true, true, false, false, true, true, true, false, true, false] rfl rfl (by kernel_rfl) (by decide) (fun K hK => ?_)
        refine goes_ Tryd.func123 (by kernel_rfl) rfl #[.slice (some ⟨g324, 0, none⟩) 2 2] (by rfl) rfl rfl (by (try simp only [List.map_toArray, List.map_cons, List.map_nil]); first | done | rfl) ?_
        refine (ratio_Mul.calls _ [a30, a31] (some ⟨g324, 0, none⟩) 2 t165 _ ⟨Rd.lit (l := []) (xs := [a30, a31]) HS.out 3 rfl (by simp)⟩ ⟨HGl0.out.pass (l := []) HS.out⟩ ⟨Sep.start _⟩ HA166).mono ?_
        rintro e_ w328 ⟨rfl, hS⟩
        replace HS : Aside0 (Sep (fps []) w [b1 g34 a30 a31 a32 a33, b2 g37 0 0 0 0 0 0 0 0, b2 g321 0 0 0 0 0 0 0 0, b3 g324 a30 a31] w328) := ⟨HS.out.call hS⟩
        clear hS
        refine ⟨_, rfl, ?_⟩
        refine hK.out _ _ (⟨blk_cellv (HS.out.at0) 2 rfl, blk_cellv (HS.out.at0) 0 rfl, blk_cellv (HS.out.at0) 1 rfl⟩) (fun hHeld => ?_)
        clear hK K
        refine norm_ (a' := ?_) ?_ ?_
        rotate_left
        · show Act.put _ (some 19) _ = _
          simp only [Act.put, List.setIfInBounds_toArray, List.set_cons_zero, List.set_cons_succ, i64_w, i32_w]
          rfl
        refine one_ (i := 8) (N := some 20) #[true, true, true, true, true, true, true, true, true, false, true, true, true, false, true, false] rfl rfl (by kernel_rfl) (by decide) (fun K hK => ?_)
        refine slice_step (n := 3) (by rfl) (N := 20) rfl (cs := #[.int .i64 24, .int .i64 a32, .int .i64 t165]) (t := 3) ?hr ?_
        case hr => first | (go_simp; done) | (go_simp; rfl)
        intro g329 hg w330 hbox hb
        replace HS : Aside0 (Sep (fps []) w [b1 g34 a30 a31 a32 a33, b2 g37 0 0 0 0 0 0 0 0, b2 g321 0 0 0 0 0 0 0 0, b3 g324 a30 a31, b4 g329 24 a32 t165] w330) := ⟨HS.out.box hg hbox hb⟩
        clear hg hbox hb
        refine hK.out _ _ (⟨blk_cellv (HS.out.at0) 2 rfl, blk_cellv (HS.out.at0) 0 rfl, blk_cellv (HS.out.at0) 1 rfl⟩) (fun hHeld => ?_)
        clear hK K
        refine norm_ (a' := ?_) ?_ ?_
        rotate_left
        · show Act.put _ (some 20) _ = _
          simp only [Act.put, List.setIfInBounds_toArray, List.set_cons_zero, List.set_cons_succ, i64_w, i32_w]
          rfl
        refine one_ (i := 9) (N := some 21) #[true, true, true, true, true, true, true, true, true, true, true, true, true, false, true, false] rfl rfl (by kernel_rfl) (by decide) (fun K hK => ?_)
        refine goes_ Tryd.func122 (by kernel_rfl) rfl #[.slice (some ⟨g329, 0, none⟩) 3 3] (by rfl) rfl rfl (by (try simp only [List.map_toArray, List.map_cons, List.map_nil]); first | done | rfl) ?_
        refine (ratio_Add.calls _ [24, a32, t165] (some ⟨g329, 0, none⟩) 3 t191 _ ⟨Rd.lit (l := []) (xs := [24, a32, t165]) HS.out 4 rfl (by simp)⟩ ⟨HGl0.out.pass (l := []) HS.out⟩ ⟨Sep.start _⟩ HA192).mono ?_
        rintro e_ w333 ⟨rfl, hS⟩
        replace HS : Aside0 (Sep (fps []) w [b1 g34 a30 a31 a32 a33, b2 g37 0 0 0 0 0 0 0 0, b2 g321 0 0 0 0 0 0 0 0, b3 g324 a30 a31, b4 g329 24 a32 t165] w333) := ⟨HS.out.call hS⟩
        clear hS
        refine ⟨_, rfl, ?_⟩
        refine hK.out _ _ (⟨blk_cellv (HS.out.at0) 2 rfl, blk_cellv (HS.out.at0) 0 rfl, blk_cellv (HS.out.at0) 1 rfl⟩) (fun hHeld => ?_)
        clear hK K
        refine norm_ (a' := ?_) ?_ ?_
        rotate_left
        · show Act.put _ (some 21) _ = _
          simp only [Act.put, List.setIfInBounds_toArray, List.set_cons_zero, List.set_cons_succ, i64_w, i32_w]
          rfl
        refine pure_ (i := 13) (N := some 25) (v := ?_) (a' := ?_) #[true, true, true, true, true, true, true, true, true, true, true, true, true, true, true, false] rfl rfl (by kernel_rfl) (fun _ _ _ h => h) (Or.inl ⟨by rfl, ?_⟩) ?_ ?_
        rotate_left
        · intro w'
          go_simp
          with_reducible rfl
        rotate_left
        · simp only [Act.put, List.setIfInBounds_toArray, List.set_cons_zero, List.set_cons_succ, i64_w, i32_w]
          rfl
        refine one_ (i := 15) (N := none) #[true, true, true, true, true, true, true, true, true, true, true, true, true, true, true, true] rfl rfl (by kernel_rfl) (by decide) (fun K hK => ?_)
        have hc335 := blk_cellv (v := .int .i64 0) (HS.out.at2) 0 rfl
        have hz336 := blk_fz (HS.out.at2) 0
        have hc337 := blk_cellv (v := .int .i64 0) (HS.out.at2) 1 rfl
        have hz338 := blk_fz (HS.out.at2) 1
        have hc339 := blk_cellv (v := .int .i64 0) (HS.out.at2) 2 rfl
        have hz340 := blk_fz (HS.out.at2) 2
        have hc341 := blk_cellv (v := .int .i64 0) (HS.out.at2) 3 rfl
        have hz342 := blk_fz (HS.out.at2) 3
        have hc343 := blk_cellv (v := .int .i64 0) (HS.out.at2) 4 rfl
        have hz344 := blk_fz (HS.out.at2) 4
        have hc345 := blk_cellv (v := .int .i64 0) (HS.out.at2) 5 rfl
        have hz346 := blk_fz (HS.out.at2) 5
        have hc347 := blk_cellv (v := .int .i64 0) (HS.out.at2) 6 rfl
        have hz348 := blk_fz (HS.out.at2) 6
        have hc349 := blk_cellv (v := .int .i64 0) (HS.out.at2) 7 rfl
        have hz350 := blk_fz (HS.out.at2) 7
        refine store_step (w1 := (World.setCell (World.setCell (World.setCell (World.setCell (World.setCell (World.setCell (World.setCell (World.setCell w333 ⟨g321, 0, none⟩ (.int .i64 t191)) ⟨g321, 1, none⟩ (.int .i64 (wrap64 (a31 - 8)))) ⟨g321, 2, none⟩ (.int .i64 0)) ⟨g321, 3, none⟩ (.int .i64 0)) ⟨g321, 4, none⟩ (.int .i64 0)) ⟨g321, 5, none⟩ (.int .i64 0)) ⟨g321, 6, none⟩ (.int .i64 0)) ⟨g321, 7, none⟩ (.int .i64 0))) (by rfl) rfl ?hr ?_
        case hr => first | (go_simp; done) | (go_simp; rfl)
        clear hc335 hz336 hc337 hz338 hc339 hz340 hc341 hz342 hc343 hz344 hc345 hz346 hc347 hz348 hc349 hz350
        intro w334 hst
        replace HS : Aside0 (Sep (fps []) w [b1 g34 a30 a31 a32 a33, b2 g37 0 0 0 0 0 0 0 0, b2 g321 t191 (wrap64 (a31 - 8)) 0 0 0 0 0 0, b3 g324 a30 a31, b4 g329 24 a32 t165] w334) := ⟨by rw [hst]; exact HS.out.setAll (l1 := [b1 g34 a30 a31 a32 a33, b2 g37 0 0 0 0 0 0 0 0]) (l2 := [b3 g324 a30 a31, b4 g329 24 a32 t165]) [.int .i64 t191, .int .i64 (wrap64 (a31 - 8)), .int .i64 0, .int .i64 0, .int .i64 0, .int .i64 0, .int .i64 0, .int .i64 0] rfl⟩
        clear hst
        refine hK.out _ _ (⟨blk_cellv (HS.out.at0) 2 rfl, blk_cellv (HS.out.at0) 0 rfl, blk_cellv (HS.out.at0) 1 rfl⟩) (fun hHeld => ?_)
        clear hK K
        refine done_ (by kernel_rfl) ?_
        go_wp2_with fail
        go_meet
        case rel => exact ⟨g324, g329, g321, (by first | rfl | (simp [IntKind.wrap_u32]; done)), ⟨(((((HS.out).front 2 (by simp)).front 4 (by simp)).front 4 (by simp)).front 4 (by simp)).front 4 (by simp)⟩⟩
    case rest =>
      clear HS
      obtain ⟨g91, g168, g194, rfl, HS⟩ := hcut
      obtain ⟨w214, rfl⟩ : ∃ x : World, x = wc := ⟨_, rfl⟩
      replace HS : Aside0 (Sep (fps []) w [b1 g34 a30 a31 a32 a33, b2 g37 0 0 0 0 0 0 0 0, b2 g194 t191 (wrap64 (a31 - 8)) 0 0 0 0 0 0] w214) := ⟨HS.out.sub (.cons_cons _ (.cons_cons _ (.cons _ (.cons _ (.cons_cons _ .slnil)))))⟩
      have hc351 : w214.cell? ⟨g194, 1, none⟩ = some (.int .i64 (wrap64 (a31 - 8))) := blk_cellv (HS.out.at2) 1 rfl
      have hc352 : w214.cell? ⟨g194, 2, none⟩ = some (.int .i64 0) := blk_cellv (HS.out.at2) 2 rfl
      have hz353 : w214.frozen? ⟨g194, 2, none⟩ = false := blk_fz (HS.out.at2) 2
      go_wp2_with (first | ((with_reducible refine gate_store (t := 3) (p := 29) rfl ?_); refine store_event (w1 := (World.setCell w214 ⟨g194, 2, none⟩ (.int .i64 (wrap64 ((wrap64 (a31 - 8)) + 1))))) rfl (t := 3) (p := 29) rfl rfl ?hr ?_; (case hr => first | (go_simp; done) | (go_simp; rfl)); intro w354 hst; clear hc351 hc352 hz353; have hq0 : Sep (fps []) w [b1 g34 a30 a31 a32 a33, b2 g37 0 0 0 0 0 0 0 0, b2 g194 t191 (wrap64 (a31 - 8)) (wrap64 ((wrap64 (a31 - 8)) + 1)) 0 0 0 0 0] (World.setCell w214 ⟨g194, 2, none⟩ (.int .i64 (wrap64 ((wrap64 (a31 - 8)) + 1)))) := (HS.out).set1 (l1 := [b1 g34 a30 a31 a32 a33, b2 g37 0 0 0 0 0 0 0 0]) (l2 := []) 2 (.int .i64 (wrap64 ((wrap64 (a31 - 8)) + 1))); replace HS : Aside0 (Sep (fps []) w [b1 g34 a30 a31 a32 a33, b2 g37 0 0 0 0 0 0 0 0, b2 g194 t191 (wrap64 (a31 - 8)) (wrap64 ((wrap64 (a31 - 8)) + 1)) 0 0 0 0 0] w354) := ⟨by rw [hst]; exact hq0⟩; clear hq0; clear hst; have hc355 : w354.cell? ⟨g194, 1, none⟩ = some (.int .i64 (wrap64 (a31 - 8))) := blk_cellv (HS.out.at2) 1 rfl; have hc356 : w354.cell? ⟨g34, 1, none⟩ = some (.int .i64 a31) := blk_cellv (HS.out.at0) 1 rfl) | ((with_reducible refine gate_dst (N := 35) rfl ?_); refine slice_on (n := 2) ?hg (N := 35) ?hd (cs := #[.int .i64 (wrap64 (a31 - 8)), .int .i64 (wrap64 (a31 - 1))]) (t := 3) ?hr ?_; (case hd => rfl); (case hg => rfl); (case hr => first | (go_simp; done) | (go_simp; rfl)); intro g357 hg w358 hbox hb; clear hc355 hc356; replace HS : Aside0 (Sep (fps []) w [b1 g34 a30 a31 a32 a33, b2 g37 0 0 0 0 0 0 0 0, b2 g194 t191 (wrap64 (a31 - 8)) (wrap64 ((wrap64 (a31 - 8)) + 1)) 0 0 0 0 0, b3 g357 (wrap64 (a31 - 8)) (wrap64 (a31 - 1))] w358) := ⟨HS.out.box hg hbox hb⟩; clear hg hbox hb))
      obtain ⟨t360, HA361, H⟩ := bind_some H
      refine (ratio_Mul.calls _ [wrap64 (a31 - 8), wrap64 (a31 - 1)] (some ⟨g357, 0, none⟩) 2 t360 _ ⟨Rd.lit (l := []) (xs := [wrap64 (a31 - 8), wrap64 (a31 - 1)]) HS.out 3 rfl (by simp)⟩ ⟨HGl0.out.pass (l := []) HS.out⟩ ⟨Sep.start _⟩ HA361).mono ?_
      rintro e_ w362 ⟨rfl, hS⟩
      replace HS : Aside0 (Sep (fps []) w [b1 g34 a30 a31 a32 a33, b2 g37 0 0 0 0 0 0 0 0, b2 g194 t191 (wrap64 (a31 - 8)) (wrap64 ((wrap64 (a31 - 8)) + 1)) 0 0 0 0 0, b3 g357 (wrap64 (a31 - 8)) (wrap64 (a31 - 1))] w362) := ⟨HS.out.call hS⟩
      clear hS
      have hc363 : w362.cell? ⟨g194, 3, none⟩ = some (.int .i64 0) := blk_cellv (HS.out.at2) 3 rfl
      have hz364 : w362.frozen? ⟨g194, 3, none⟩ = false := blk_fz (HS.out.at2) 3
      go_wp2_with (first | ((with_reducible refine gate_store (t := 3) (p := 37) rfl ?_); refine store_event (w1 := (World.setCell w362 ⟨g194, 3, none⟩ (.int .i64 t360))) rfl (t := 3) (p := 37) rfl rfl ?hr ?_; (case hr => first | (go_simp; done) | (go_simp; rfl)); intro w365 hst; clear hc363 hz364; have hq0 : Sep (fps []) w [b1 g34 a30 a31 a32 a33, b2 g37 0 0 0 0 0 0 0 0, b2 g194 t191 (wrap64 (a31 - 8)) (wrap64 ((wrap64 (a31 - 8)) + 1)) t360 0 0 0 0, b3 g357 (wrap64 (a31 - 8)) (wrap64 (a31 - 1))] (World.setCell w362 ⟨g194, 3, none⟩ (.int .i64 t360)) := (HS.out).set1 (l1 := [b1 g34 a30 a31 a32 a33, b2 g37 0 0 0 0 0 0 0 0]) (l2 := [b3 g357 (wrap64 (a31 - 8)) (wrap64 (a31 - 1))]) 3 (.int .i64 t360); replace HS : Aside0 (Sep (fps []) w [b1 g34 a30 a31 a32 a33, b2 g37 0 0 0 0 0 0 0 0, b2 g194 t191 (wrap64 (a31 - 8)) (wrap64 ((wrap64 (a31 - 8)) + 1)) t360 0 0 0 0, b3 g357 (wrap64 (a31 - 8)) (wrap64 (a31 - 1))] w365) := ⟨by rw [hst]; exact hq0⟩; clear hq0; clear hst; replace HS : Aside0 (Sep (fps []) w [b1 g34 a30 a31 a32 a33, b2 g37 0 0 0 0 0 0 0 0, b2 g194 t191 (wrap64 (a31 - 8)) (wrap64 ((wrap64 (a31 - 8)) + 1)) t360 0 0 0 0] w365) := ⟨HS.out.sub (.cons_cons _ (.cons_cons _ (.cons_cons _ (.cons _ .slnil))))⟩; have hc366 : w365.cell? ⟨g34, 0, none⟩ = some (.int .i64 a30) := blk_cellv (HS.out.at0) 0 rfl; have hc367 : w365.cell? ⟨g34, 1, none⟩ = some (.int .i64 a31) := blk_cellv (HS.out.at0) 1 rfl) | ((with_reducible refine gate_dst (N := 43) rfl ?_); refine slice_on (n := 2) ?hg (N := 43) ?hd (cs := #[.int .i64 a30, .int .i64 (wrap64 (a31 + 1))]) (t := 3) ?hr ?_; (case hd => rfl); (case hg => rfl); (case hr => first | (go_simp; done) | (go_simp; rfl)); intro g368 hg w369 hbox hb; clear hc366 hc367; replace HS : Aside0 (Sep (fps []) w [b1 g34 a30 a31 a32 a33, b2 g37 0 0 0 0 0 0 0 0, b2 g194 t191 (wrap64 (a31 - 8)) (wrap64 ((wrap64 (a31 - 8)) + 1)) t360 0 0 0 0, b3 g368 a30 (wrap64 (a31 + 1))] w369) := ⟨HS.out.box hg hbox hb⟩; clear hg hbox hb))
      obtain ⟨t371, HA372, H⟩ := bind_some H
      refine (ratio_Mul.calls _ [a30, wrap64 (a31 + 1)] (some ⟨g368, 0, none⟩) 2 t371 _ ⟨Rd.lit (l := []) (xs := [a30, wrap64 (a31 + 1)]) HS.out 3 rfl (by simp)⟩ ⟨HGl0.out.pass (l := []) HS.out⟩ ⟨Sep.start _⟩ HA372).mono ?_
      rintro e_ w373 ⟨rfl, hS⟩
      replace HS : Aside0 (Sep (fps []) w [b1 g34 a30 a31 a32 a33, b2 g37 0 0 0 0 0 0 0 0, b2 g194 t191 (wrap64 (a31 - 8)) (wrap64 ((wrap64 (a31 - 8)) + 1)) t360 0 0 0 0, b3 g368 a30 (wrap64 (a31 + 1))] w373) := ⟨HS.out.call hS⟩
      clear hS
      have hc374 : w373.cell? ⟨g194, 5, none⟩ = some (.int .i64 0) := blk_cellv (HS.out.at2) 5 rfl
      have hz375 : w373.frozen? ⟨g194, 5, none⟩ = false := blk_fz (HS.out.at2) 5
      go_wp2_with (first | ((with_reducible refine gate_store (t := 3) (p := 45) rfl ?_); refine store_event (w1 := (World.setCell w373 ⟨g194, 5, none⟩ (.int .i64 t371))) rfl (t := 3) (p := 45) rfl rfl ?hr ?_; (case hr => first | (go_simp; done) | (go_simp; rfl)); intro w376 hst; clear hc374 hz375; have hq0 : Sep (fps []) w [b1 g34 a30 a31 a32 a33, b2 g37 0 0 0 0 0 0 0 0, b2 g194 t191 (wrap64 (a31 - 8)) (wrap64 ((wrap64 (a31 - 8)) + 1)) t360 0 t371 0 0, b3 g368 a30 (wrap64 (a31 + 1))] (World.setCell w373 ⟨g194, 5, none⟩ (.int .i64 t371)) := (HS.out).set1 (l1 := [b1 g34 a30 a31 a32 a33, b2 g37 0 0 0 0 0 0 0 0]) (l2 := [b3 g368 a30 (wrap64 (a31 + 1))]) 5 (.int .i64 t371); replace HS : Aside0 (Sep (fps []) w [b1 g34 a30 a31 a32 a33, b2 g37 0 0 0 0 0 0 0 0, b2 g194 t191 (wrap64 (a31 - 8)) (wrap64 ((wrap64 (a31 - 8)) + 1)) t360 0 t371 0 0, b3 g368 a30 (wrap64 (a31 + 1))] w376) := ⟨by rw [hst]; exact hq0⟩; clear hq0; clear hst; replace HS : Aside0 (Sep (fps []) w [b1 g34 a30 a31 a32 a33, b2 g37 0 0 0 0 0 0 0 0, b2 g194 t191 (wrap64 (a31 - 8)) (wrap64 ((wrap64 (a31 - 8)) + 1)) t360 0 t371 0 0] w376) := ⟨HS.out.sub (.cons_cons _ (.cons_cons _ (.cons_cons _ (.cons _ .slnil))))⟩; have hc377 : w376.cell? ⟨g194, 5, none⟩ = some (.int .i64 t371) := blk_cellv (HS.out.at2) 5 rfl) | ((with_reducible refine gate_dst (N := 48) rfl ?_); refine slice_on (n := 2) ?hg (N := 48) ?hd (cs := #[.int .i64 3, .int .i64 t371]) (t := 3) ?hr ?_; (case hd => rfl); (case hg => rfl); (case hr => first | (go_simp; done) | (go_simp; rfl)); intro g378 hg w379 hbox hb; clear hc377; replace HS : Aside0 (Sep (fps []) w [b1 g34 a30 a31 a32 a33, b2 g37 0 0 0 0 0 0 0 0, b2 g194 t191 (wrap64 (a31 - 8)) (wrap64 ((wrap64 (a31 - 8)) + 1)) t360 0 t371 0 0, b3 g378 3 t371] w379) := ⟨HS.out.box hg hbox hb⟩; clear hg hbox hb))
      obtain ⟨t381, HA382, H⟩ := bind_some H
      refine (ratio_Mul.calls _ [3, t371] (some ⟨g378, 0, none⟩) 2 t381 _ ⟨Rd.lit (l := []) (xs := [3, t371]) HS.out 3 rfl (by simp)⟩ ⟨HGl0.out.pass (l := []) HS.out⟩ ⟨Sep.start _⟩ HA382).mono ?_
      rintro e_ w383 ⟨rfl, hS⟩
      replace HS : Aside0 (Sep (fps []) w [b1 g34 a30 a31 a32 a33, b2 g37 0 0 0 0 0 0 0 0, b2 g194 t191 (wrap64 (a31 - 8)) (wrap64 ((wrap64 (a31 - 8)) + 1)) t360 0 t371 0 0, b3 g378 3 t371] w383) := ⟨HS.out.call hS⟩
      clear hS
      go_wp2_with (first | ((with_reducible refine gate_dst (N := 50) rfl ?_); refine slice_on (n := 2) ?hg (N := 50) ?hd (cs := #[.int .i64 t381, .int .i64 4]) (t := 3) ?hr ?_; (case hd => rfl); (case hg => rfl); (case hr => first | (go_simp; done) | (go_simp; rfl)); intro g384 hg w385 hbox hb; replace HS : Aside0 (Sep (fps []) w [b1 g34 a30 a31 a32 a33, b2 g37 0 0 0 0 0 0 0 0, b2 g194 t191 (wrap64 (a31 - 8)) (wrap64 ((wrap64 (a31 - 8)) + 1)) t360 0 t371 0 0, b3 g378 3 t371, b3 g384 t381 4] w385) := ⟨HS.out.box hg hbox hb⟩; clear hg hbox hb))
      obtain ⟨t387, HA388, H⟩ := bind_some H
      refine (ratio_Add.calls _ [t381, 4] (some ⟨g384, 0, none⟩) 2 t387 _ ⟨Rd.lit (l := []) (xs := [t381, 4]) HS.out 4 rfl (by simp)⟩ ⟨HGl0.out.pass (l := []) HS.out⟩ ⟨Sep.start _⟩ HA388).mono ?_
      rintro e_ w389 ⟨rfl, hS⟩
      replace HS : Aside0 (Sep (fps []) w [b1 g34 a30 a31 a32 a33, b2 g37 0 0 0 0 0 0 0 0, b2 g194 t191 (wrap64 (a31 - 8)) (wrap64 ((wrap64 (a31 - 8)) + 1)) t360 0 t371 0 0, b3 g378 3 t371, b3 g384 t381 4] w389) := ⟨HS.out.call hS⟩
      clear hS
      have hc390 : w389.cell? ⟨g194, 4, none⟩ = some (.int .i64 0) := blk_cellv (HS.out.at2) 4 rfl
      have hz391 : w389.frozen? ⟨g194, 4, none⟩ = false := blk_fz (HS.out.at2) 4
      go_wp2_with (first | ((with_reducible refine gate_store (t := 3) (p := 52) rfl ?_); refine store_event (w1 := (World.setCell w389 ⟨g194, 4, none⟩ (.int .i64 t387))) rfl (t := 3) (p := 52) rfl rfl ?hr ?_; (case hr => first | (go_simp; done) | (go_simp; rfl)); intro w392 hst; clear hc390 hz391; have hq0 : Sep (fps []) w [b1 g34 a30 a31 a32 a33, b2 g37 0 0 0 0 0 0 0 0, b2 g194 t191 (wrap64 (a31 - 8)) (wrap64 ((wrap64 (a31 - 8)) + 1)) t360 t387 t371 0 0, b3 g378 3 t371, b3 g384 t381 4] (World.setCell w389 ⟨g194, 4, none⟩ (.int .i64 t387)) := (HS.out).set1 (l1 := [b1 g34 a30 a31 a32 a33, b2 g37 0 0 0 0 0 0 0 0]) (l2 := [b3 g378 3 t371, b3 g384 t381 4]) 4 (.int .i64 t387); replace HS : Aside0 (Sep (fps []) w [b1 g34 a30 a31 a32 a33, b2 g37 0 0 0 0 0 0 0 0, b2 g194 t191 (wrap64 (a31 - 8)) (wrap64 ((wrap64 (a31 - 8)) + 1)) t360 t387 t371 0 0, b3 g378 3 t371, b3 g384 t381 4] w392) := ⟨by rw [hst]; exact hq0⟩; clear hq0; clear hst; replace HS : Aside0 (Sep (fps []) w [b1 g34 a30 a31 a32 a33, b2 g37 0 0 0 0 0 0 0 0, b2 g194 t191 (wrap64 (a31 - 8)) (wrap64 ((wrap64 (a31 - 8)) + 1)) t360 t387 t371 0 0] w392) := ⟨HS.out.sub (.cons_cons _ (.cons_cons _ (.cons_cons _ (.cons _ (.cons _ .slnil)))))⟩))
      obtain ⟨t412, HA413, H⟩ := bind_some H
      obtain ⟨t418, HA419, H⟩ := bind_some H
      obtain ⟨t424, HA425, H⟩ := bind_some H
      obtain ⟨t430, HA431, H⟩ := bind_some H
      go_cut [] (fun wc => ∃ (g415 : Nat) (g421 : Nat) (g427 : Nat), Aside0 (Sep (fps []) w [b1 g34 a30 a31 a32 a33, b2 g37 0 0 0 0 0 0 0 0, b2 g194 t191 (wrap64 (a31 - 8)) (wrap64 ((wrap64 (a31 - 8)) + 1)) t360 t387 t371 t430 0, b3 g415 2 t412, b3 g421 2 (wrap64 ((wrap64 (a31 - 8)) + 1)), b3 g427 t418 t424] wc))
      case first =>
        go_wp2_with fail
        refine start_ (n := 15) (S := (fun w' => w'.cell? ⟨g194, 4, none⟩ = some (.int .i64 t387) ∧ w'.cell? ⟨g34, 3, none⟩ = some (.int .i64 a33) ∧ w'.cell? ⟨g194, 2, none⟩ = some (.int .i64 (wrap64 ((wrap64 (a31 - 8)) + 1))))) (ds := []) #[false, false, false, false, false, false, false, false, false, false, false, false, false, false, false] (by kernel_rfl) rfl rfl (⟨blk_cellv ((HS.out.drew).at2) 4 rfl, blk_cellv ((HS.out.drew).at0) 3 rfl, blk_cellv ((HS.out.drew).at2) 2 rfl⟩) (fun hHeld => ?_)
        have HS_ := Aside0.mk HS.out.drew
        clear HS
        generalize World.drew _ = w438 at HS_ hHeld ⊢
        have HS := HS_
        clear HS_
        refine pure_ (i := 0) (N := some 53) (v := ?_) (a' := ?_) #[true, false, false, false, false, false, false, false, false, false, false, false, false, false, false] rfl rfl (by kernel_rfl) (fun _ _ _ h => h) (Or.inl ⟨by rfl, ?_⟩) ?_ ?_
        rotate_left
        · intro w'
          go_simp
          with_reducible rfl
        rotate_left
        · simp only [Act.put, List.setIfInBounds_toArray, List.set_cons_zero, List.set_cons_succ, i64_w, i32_w]
          rfl
        refine pure_ (i := 2) (N := some 55) (v := ?_) (a' := ?_) #[true, false, true, false, false, false, false, false, false, false, false, false, false, false, false] rfl rfl (by kernel_rfl) (fun _ _ _ h => h) (Or.inl ⟨by rfl, ?_⟩) ?_ ?_
        rotate_left
        · intro w'
          go_simp
          with_reducible rfl
        rotate_left
        · simp only [Act.put, List.setIfInBounds_toArray, List.set_cons_zero, List.set_cons_succ, i64_w, i32_w]
          rfl
        refine pure_ (i := 7) (N := some 60) (v := ?_) (a' := ?_) #[true, false, true, false, false, false, false, true, false, false, false, false, false, false, false] rfl rfl (by kernel_rfl) (fun _ _ _ h => h) (Or.inl ⟨by rfl, ?_⟩) ?_ ?_
        rotate_left
        · intro w'
          go_simp
          with_reducible rfl
        rotate_left
        · simp only [Act.put, List.setIfInBounds_toArray, List.set_cons_zero, List.set_cons_succ, i64_w, i32_w]
          rfl
        refine take_ (i := 1) (N := some 54) (v := ?_) (a' := ?_) #[true, true, true, false, false, false, false, true, false, false, false, false, false, false, false] rfl rfl (by kernel_rfl) (fun _ _ _ h => h) (Or.inl ⟨by rfl, ?_⟩) hHeld ?_ ?_
        rotate_left
        · rintro w' hS'
          obtain ⟨s0, s1, s2⟩ := hS'
          go_simp
          with_reducible rfl
        rotate_left
        · simp only [Act.put, List.setIfInBounds_toArray, List.set_cons_zero, List.set_cons_succ, i64_w, i32_w]
          rfl
        refine take_ (i := 3) (N := some 56) (v := ?_) (a' := ?_) #[true, true, true, true, false, false, false, true, false, false, false, false, false, false, false] rfl rfl (by kernel_rfl) (fun _ _ _ h => h) (Or.inl ⟨by rfl, ?_⟩) hHeld ?_ ?_
        rotate_left
        · rintro w' hS'
          obtain ⟨s0, s1, s2⟩ := hS'
          go_simp
          with_reducible rfl
        rotate_left
        · simp only [Act.put, List.setIfInBounds_toArray, List.set_cons_zero, List.set_cons_succ, i64_w, i32_w]
          rfl
        refine take_ (i := 8) (N := some 61) (v := ?_) (a' := ?_) #[true, true, true, true, false, false, false, true, true, false, false, false, false, false, false] rfl rfl (by kernel_rfl) (fun _ _ _ h => h) (Or.inl ⟨by rfl, ?_⟩) hHeld ?_ ?_
        rotate_left
        · rintro w' hS'
          obtain ⟨s0, s1, s2⟩ := hS'
          go_simp
          with_reducible rfl
        rotate_left
        · simp only [Act.put, List.setIfInBounds_toArray, List.set_cons_zero, List.set_cons_succ, i64_w, i32_w]
          rfl
        refine two_ (i := 4) (j := 9) (Ni := some 57) (Nj := some 62) #[true, true, true, true, true, false, false, true, true, false, false, false, false, false, false] #[true, true, true, true, false, false, false, true, true, true, false, false, false, false, false] rfl rfl rfl rfl (by kernel_rfl) (by decide) (by decide) (fun K hK => ?_) (fun K hK => ?_)
        · refine goes_ Tryd.func124 (by kernel_rfl) rfl #[.int .i64 t387, .int .i64 a33] (by rfl) rfl rfl (by (try simp only [List.map_toArray, List.map_cons, List.map_nil]); first | done | rfl) ?_
          refine (ratio_Up.calls t387 a33 t412 _ ⟨HGl0.out.pass (l := []) HS.out⟩ ⟨Sep.start _⟩ HA413).mono ?_
          rintro e_ w440 ⟨rfl, hS⟩
          replace HS : Aside0 (Sep (fps []) w [b1 g34 a30 a31 a32 a33, b2 g37 0 0 0 0 0 0 0 0, b2 g194 t191 (wrap64 (a31 - 8)) (wrap64 ((wrap64 (a31 - 8)) + 1)) t360 t387 t371 0 0] w440) := ⟨HS.out.call hS⟩
          clear hS
          refine ⟨_, rfl, ?_⟩
          refine hK.out _ _ (⟨blk_cellv (HS.out.at2) 4 rfl, blk_cellv (HS.out.at0) 3 rfl, blk_cellv (HS.out.at2) 2 rfl⟩) (fun hHeld => ?_)
          clear hK K
          refine norm_ (a' := ?_) ?_ ?_
          rotate_left
          · show Act.put _ (some 57) _ = _
            simp only [Act.put, List.setIfInBounds_toArray, List.set_cons_zero, List.set_cons_succ, i64_w, i32_w]
            rfl
          refine two_ (i := 5) (j := 9) (Ni := some 58) (Nj := some 62) #[true, true, true, true, true, true, false, true, true, false, false, false, false, false, false] #[true, true, true, true, true, false, false, true, true, true, false, false, false, false, false] rfl rfl rfl rfl (by kernel_rfl) (by decide) (by decide) (fun K hK => ?_) (fun K hK => ?_)
          · refine slice_step (n := 2) (by rfl) (N := 58) rfl (cs := #[.int .i64 2, .int .i64 t412]) (t := 3) ?hr ?_
            case hr => first | (go_simp; done) | (go_simp; rfl)
            intro g441 hg w442 hbox hb
            replace HS : Aside0 (Sep (fps []) w [b1 g34 a30 a31 a32 a33, b2 g37 0 0 0 0 0 0 0 0, b2 g194 t191 (wrap64 (a31 - 8)) (wrap64 ((wrap64 (a31 - 8)) + 1)) t360 t387 t371 0 0, b3 g441 2 t412] w442) := ⟨HS.out.box hg hbox hb⟩
            clear hg hbox hb
            refine hK.out _ _ (⟨blk_cellv (HS.out.at2) 4 rfl, blk_cellv (HS.out.at0) 3 rfl, blk_cellv (HS.out.at2) 2 rfl⟩) (fun hHeld => ?_)
            clear hK K
            refine norm_ (a' := ?_) ?_ ?_
            rotate_left
            · show Act.put _ (some 58) _ = _
              simp only [Act.put, List.setIfInBounds_toArray, List.set_cons_zero, List.set_cons_succ, i64_w, i32_w]
              rfl
            refine two_ (i := 6) (j := 9) (Ni := some 59) (Nj := some 62) #[true, true, true, true, true, true, true, true, true, false, false, false, false, false, false] #[true, true, true, true, true, true, false, true, true, true, false, false, false, false, false] rfl rfl rfl rfl (by kernel_rfl) (by decide) (by decide) (fun K hK => ?_) (fun K hK => ?_)
            · refine goes_ Tryd.func123 (by kernel_rfl) rfl #[.slice (some ⟨g441, 0, none⟩) 2 2] (by rfl) rfl rfl (by (try simp only [List.map_toArray, List.map_cons, List.map_nil]); first | done | rfl) ?_
              refine (ratio_Mul.calls _ [2, t412] (some ⟨g441, 0, none⟩) 2 t418 _ ⟨Rd.lit (l := []) (xs := [2, t412]) HS.out 3 rfl (by simp)⟩ ⟨HGl0.out.pass (l := []) HS.out⟩ ⟨Sep.start _⟩ HA419).mono ?_
              rintro e_ w445 ⟨rfl, hS⟩
              replace HS : Aside0 (Sep (fps []) w [b1 g34 a30 a31 a32 a33, b2 g37 0 0 0 0 0 0 0 0, b2 g194 t191 (wrap64 (a31 - 8)) (wrap64 ((wrap64 (a31 - 8)) + 1)) t360 t387 t371 0 0, b3 g441 2 t412] w445) := ⟨HS.out.call hS⟩
              clear hS
              refine ⟨_, rfl, ?_⟩
              refine hK.out _ _ (⟨blk_cellv (HS.out.at2) 4 rfl, blk_cellv (HS.out.at0) 3 rfl, blk_cellv (HS.out.at2) 2 rfl⟩) (fun hHeld => ?_)
              clear hK K
              refine norm_ (a' := ?_) ?_ ?_
              rotate_left
              · show Act.put _ (some 59) _ = _
                simp only [Act.put, List.setIfInBounds_toArray, List.set_cons_zero, List.set_cons_succ, i64_w, i32_w]
                rfl
              refine one_ (i := 9) (N := some 62) #[true, true, true, true, true, true, true, true, true, true, false, false, false, false, false] rfl rfl (by kernel_rfl) (by decide) (fun K hK => ?_)
              refine slice_step (n := 2) (by rfl) (N := 62) rfl (cs := #[.int .i64 2, .int .i64 (wrap64 ((wrap64 (a31 - 8)) + 1))]) (t := 3) ?hr ?_
              case hr => first | (go_simp; done) | (go_simp; rfl)
              intro g446 hg w447 hbox hb
              replace HS : Aside0 (Sep (fps []) w [b1 g34 a30 a31 a32 a33, b2 g37 0 0 0 0 0 0 0 0, b2 g194 t191 (wrap64 (a31 - 8)) (wrap64 ((wrap64 (a31 - 8)) + 1)) t360 t387 t371 0 0, b3 g441 2 t412, b3 g446 2 (wrap64 ((wrap64 (a31 - 8)) + 1))] w447) := ⟨HS.out.box hg hbox hb⟩
              clear hg hbox hb
              refine hK.out _ _ (⟨blk_cellv (HS.out.at2) 4 rfl, blk_cellv (HS.out.at0) 3 rfl, blk_cellv (HS.out.at2) 2 rfl⟩) (fun hHeld => ?_)
              clear hK K
              refine norm_ (a' := ?_) ?_ ?_
              rotate_left
              · show Act.put _ (some 62) _ = _
                simp only [Act.put, List.setIfInBounds_toArray, List.set_cons_zero, List.set_cons_succ, i64_w, i32_w]
                rfl
              refine one_ (i := 10) (N := some 63) #[true, true, true, true, true, true, true, true, true, true, true, false, false, false, false] rfl rfl (by kernel_rfl) (by decide) (fun K hK => ?_)
              refine goes_ Tryd.func123 (by kernel_rfl) rfl #[.slice (some ⟨g446, 0, none⟩) 2 2] (by rfl) rfl rfl (by (try simp only [List.map_toArray, List.map_cons, List.map_nil]); first | done | rfl) ?_
              refine (ratio_Mul.calls _ [2, wrap64 ((wrap64 (a31 - 8)) + 1)] (some ⟨g446, 0, none⟩) 2 t424 _ ⟨Rd.lit (l := []) (xs := [2, wrap64 ((wrap64 (a31 - 8)) + 1)]) HS.out 4 rfl (by simp)⟩ ⟨HGl0.out.pass (l := []) HS.out⟩ ⟨Sep.start _⟩ HA425).mono ?_
              rintro e_ w450 ⟨rfl, hS⟩
              replace HS : Aside0 (Sep (fps []) w [b1 g34 a30 a31 a32 a33, b2 g37 0 0 0 0 0 0 0 0, b2 g194 t191 (wrap64 (a31 - 8)) (wrap64 ((wrap64 (a31 - 8)) + 1)) t360 t387 t371 0 0, b3 g441 2 t412, b3 g446 2 (wrap64 ((wrap64 (a31 - 8)) + 1))] w450) := ⟨HS.out.call hS⟩
              clear hS
              refine ⟨_, rfl, ?_⟩
              refine hK.out _ _ (⟨blk_cellv (HS.out.at2) 4 rfl, blk_cellv (HS.out.at0) 3 rfl, blk_cellv (HS.out.at2) 2 rfl⟩) (fun hHeld => ?_)
              clear hK K
              refine norm_ (a' := ?_) ?_ ?_
              rotate_left
              · show Act.put _ (some 63) _ = _
                simp only [Act.put, List.setIfInBounds_toArray, List.set_cons_zero, List.set_cons_succ, i64_w, i32_w]
                rfl
              refine one_ (i := 11) (N := some 64) #[true, true, true, true, true, true, true, true, true, true, true, true, false, false, false] rfl rfl (by kernel_rfl) (by decide) (fun K hK => ?_)
              refine slice_step (n := 2) (by rfl) (N := 64) rfl (cs := #[.int .i64 t418, .int .i64 t424]) (t := 3) ?hr ?_
              case hr => first | (go_simp; done) | (go_simp; rfl)
              intro g451 hg w452 hbox hb
              replace HS : Aside0 (Sep (fps []) w [b1 g34 a30 a31 a32 a33, b2 g37 0 0 0 0 0 0 0 0, b2 g194 t191 (wrap64 (a31 - 8)) (wrap64 ((wrap64 (a31 - 8)) + 1)) t360 t387 t371 0 0, b3 g441 2 t412, b3 g446 2 (wrap64 ((wrap64 (a31 - 8)) + 1)), b3 g451 t418 t424] w452) := ⟨HS.out.box hg hbox hb⟩
              clear hg hbox hb
              refine hK.out _ _ (⟨blk_cellv (HS.out.at2) 4 rfl, blk_cellv (HS.out.at0) 3 rfl, blk_cellv (HS.out.at2) 2 rfl⟩) (fun hHeld => ?_)
              clear hK K
              refine norm_ (a' := ?_) ?_ ?_
              rotate_left
              · show Act.put _ (some 64) _ = _
                simp only [Act.put, List.setIfInBounds_toArray, List.set_cons_zero, List.set_cons_succ, i64_w, i32_w]
                rfl
              refine one_ (i := 12) (N := some 65) #[true, true, true, true, true, true, true, true, true, true, true, true, true, false, false] rfl rfl (by kernel_rfl) (by decide) (fun K hK => ?_)
              refine goes_ Tryd.func122 (by kernel_rfl) rfl #[.slice (some ⟨g451, 0, none⟩) 2 2] (by rfl) rfl rfl (by (try simp only [List.map_toArray, List.map_cons, List.map_nil]); first | done | rfl) ?_
              refine (ratio_Add.calls _ [t418, t424] (some ⟨g451, 0, none⟩) 2 t430 _ ⟨Rd.lit (l := []) (xs := [t418, t424]) HS.out 5 rfl (by simp)⟩ ⟨HGl0.out.pass (l := []) HS.out⟩ ⟨Sep.start _⟩ HA431).mono ?_
              rintro e_ w455 ⟨rfl, hS⟩
              replace HS : Aside0 (Sep (fps []) w [b1 g34 a30 a31 a32 a33, b2 g37 0 0 0 0 0 0 0 0, b2 g194 t191 (wrap64 (a31 - 8)) (wrap64 ((wrap64 (a31 - 8)) + 1)) t360 t387 t371 0 0, b3 g441 2 t412, b3 g446 2 (wrap64 ((wrap64 (a31 - 8)) + 1)), b3 g451 t418 t424] w455) := ⟨HS.out.call hS⟩
              clear hS
              refine ⟨_, rfl, ?_⟩
              refine hK.out _ _ (⟨blk_cellv (HS.out.at2) 4 rfl, blk_cellv (HS.out.at0) 3 rfl, blk_cellv (HS.out.at2) 2 rfl⟩) (fun hHeld => ?_)
              clear hK K
              refine norm_ (a' := ?_) ?_ ?_
              rotate_left
              · show Act.put _ (some 65) _ = _
                simp only [Act.put, List.setIfInBounds_toArray, List.set_cons_zero, List.set_cons_succ, i64_w, i32_w]
                rfl
              refine pure_ (i := 13) (N := some 66) (v := ?_) (a' := ?_) #[true, true, true, true, true, true, true, true, true, true, true, true, true, true, false] rfl rfl (by kernel_rfl) (fun _ _ _ h => h) (Or.inl ⟨by rfl, ?_⟩) ?_ ?_
              rotate_left
              · intro w'
                go_simp
                with_reducible rfl
              rotate_left
              · simp only [Act.put, List.setIfInBounds_toArray, List.set_cons_zero, List.set_cons_succ, i64_w, i32_w]
                rfl
              refine one_ (i := 14) (N := none) #[true, true, true, true, true, true, true, true, true, true, true, true, true, true, true] rfl rfl (by kernel_rfl) (by decide) (fun K hK => ?_)
              have hc457 := blk_cellv (v := .int .i64 0) (HS.out.at2) 6 rfl
              have hz458 := blk_fz (HS.out.at2) 6
              refine store_step (w1 := (World.setCell w455 ⟨g194, 6, none⟩ (.int .i64 t430))) (by rfl) rfl ?hr ?_
              case hr => first | (go_simp; done) | (go_simp; rfl)
              clear hc457 hz458
              intro w456 hst
              have hq0 : Sep (fps []) w [b1 g34 a30 a31 a32 a33, b2 g37 0 0 0 0 0 0 0 0, b2 g194 t191 (wrap64 (a31 - 8)) (wrap64 ((wrap64 (a31 - 8)) + 1)) t360 t387 t371 t430 0, b3 g441 2 t412, b3 g446 2 (wrap64 ((wrap64 (a31 - 8)) + 1)), b3 g451 t418 t424] (World.setCell w455 ⟨g194, 6, none⟩ (.int .i64 t430)) := (HS.out).set1 (l1 := [b1 g34 a30 a31 a32 a33, b2 g37 0 0 0 0 0 0 0 0]) (l2 := [b3 g441 2 t412, b3 g446 2 (wrap64 ((wrap64 (a31 - 8)) + 1)), b3 g451 t418 t424]) 6 (.int .i64 t430)
              have HS_ : Aside0 (Sep (fps []) w [b1 g34 a30 a31 a32 a33, b2 g37 0 0 0 0 0 0 0 0, b2 g194 t191 (wrap64 (a31 - 8)) (wrap64 ((wrap64 (a31 - 8)) + 1)) t360 t387 t371 t430 0, b3 g441 2 t412, b3 g446 2 (wrap64 ((wrap64 (a31 - 8)) + 1)), b3 g451 t418 t424] w456) := ⟨by rw [hst]; exact hq0⟩
              clear hq0
              clear HS hst
              have HS := HS_
              clear HS_
              refine hK.out _ _ (⟨blk_cellv (HS.out.at2) 4 rfl, blk_cellv (HS.out.at0) 3 rfl, blk_cellv (HS.out.at2) 2 rfl⟩) (fun hHeld => ?_)
              clear hK K
              refine done_ (by kernel_rfl) ?_
              go_wp2_with fail
              go_meet
              case rel => exact ⟨g441, g446, g451, ⟨((((((HS.out).front 5 (by simp)).front 5 (by simp)).front 5 (by simp)).front 5 (by simp)).front 5 (by simp)).front 5 (by simp)⟩⟩
            · refine slice_step (n := 2) (by rfl) (N := 62) rfl (cs := #[.int .i64 2, .int .i64 (wrap64 ((wrap64 (a31 - 8)) + 1))]) (t := 3) ?hr ?_
              case hr => first | (go_simp; done) | (go_simp; rfl)
              intro g459 hg w460 hbox hb
              replace HS : Aside0 (Sep (fps []) w [b1 g34 a30 a31 a32 a33, b2 g37 0 0 0 0 0 0 0 0, b2 g194 t191 (wrap64 (a31 - 8)) (wrap64 ((wrap64 (a31 - 8)) + 1)) t360 t387 t371 0 0, b3 g441 2 t412, b3 g459 2 (wrap64 ((wrap64 (a31 - 8)) + 1))] w460) := ⟨HS.out.box hg hbox hb⟩
              clear hg hbox hb
              refine hK.out _ _ (⟨blk_cellv (HS.out.at2) 4 rfl, blk_cellv (HS.out.at0) 3 rfl, blk_cellv (HS.out.at2) 2 rfl⟩) (fun hHeld => ?_)
              clear hK K
              refine norm_ (a' := ?_) ?_ ?_
              rotate_left
              · show Act.put _ (some 62) _ = _
                simp only [Act.put, List.setIfInBounds_toArray, List.set_cons_zero, List.set_cons_succ, i64_w, i32_w]
                rfl
              refine one_ (i := 6) (N := some 59) #[true, true, true, true, true, true, true, true, true, true, false, false, false, false, false] rfl rfl (by kernel_rfl) (by decide) (fun K hK => ?_)
              refine goes_ Tryd.func123 (by kernel_rfl) rfl #[.slice (some ⟨g441, 0, none⟩) 2 2] (by rfl) rfl rfl (by (try simp only [List.map_toArray, List.map_cons, List.map_nil]); first | done | rfl) ?_
              refine (ratio_Mul.calls _ [2, t412] (some ⟨g441, 0, none⟩) 2 t418 _ ⟨Rd.lit (l := []) (xs := [2, t412]) HS.out 3 rfl (by simp)⟩ ⟨HGl0.out.pass (l := []) HS.out⟩ ⟨Sep.start _⟩ HA419).mono ?_
              rintro e_ w463 ⟨rfl, hS⟩
              replace HS : Aside0 (Sep (fps []) w [b1 g34 a30 a31 a32 a33, b2 g37 0 0 0 0 0 0 0 0, b2 g194 t191 (wrap64 (a31 - 8)) (wrap64 ((wrap64 (a31 - 8)) + 1)) t360 t387 t371 0 0, b3 g441 2 t412, b3 g459 2 (wrap64 ((wrap64 (a31 - 8)) + 1))] w463) := ⟨HS.out.call hS⟩
              clear hS
              refine ⟨_, rfl, ?_⟩
              refine hK.out _ _ (⟨blk_cellv (HS.out.at2) 4 rfl, blk_cellv (HS.out.at0) 3 rfl, blk_cellv (HS.out.at2) 2 rfl⟩) (fun hHeld => ?_)
              clear hK K
              refine norm_ (a' := ?_) ?_ ?_
              rotate_left
              · show Act.put _ (some 59) _ = _
                simp only [Act.put, List.setIfInBounds_toArray, List.set_cons_zero, List.set_cons_succ, i64_w, i32_w]
                rfl
              refine one_ (i := 10) (N := some 63) #[true, true, true, true, true, true, true, true, true, true, true, false, false, false, false] rfl rfl (by kernel_rfl) (by decide) (fun K hK => ?_)
              refine goes_ Tryd.func123 (by kernel_rfl) rfl #[.slice (some ⟨g459, 0, none⟩) 2 2] (by rfl) rfl rfl (by (try simp only [List.map_toArray, List.map_cons, List.map_nil]); first | done | rfl) ?_
              refine (ratio_Mul.calls _ [2, wrap64 ((wrap64 (a31 - 8)) + 1)] (some ⟨g459, 0, none⟩) 2 t424 _ ⟨Rd.lit (l := []) (xs := [2, wrap64 ((wrap64 (a31 - 8)) + 1)]) HS.out 4 rfl (by simp)⟩ ⟨HGl0.out.pass (l := []) HS.out⟩ ⟨Sep.start _⟩ HA425).mono ?_
              rintro e_ w465 ⟨rfl, hS⟩
              replace HS : Aside0 (Sep (fps []) w [b1 g34 a30 a31 a32 a33, b2 g37 0 0 0 0 0 0 0 0, b2 g194 t191 (wrap64 (a31 - 8)) (wrap64 ((wrap64 (a31 - 8)) + 1)) t360 t387 t371 0 0, b3 g441 2 t412, b3 g459 2 (wrap64 ((wrap64 (a31 - 8)) + 1))] w465) := ⟨HS.out.call hS⟩
              clear hS
              refine ⟨_, rfl, ?_⟩
              refine hK.out _ _ (⟨blk_cellv (HS.out.at2) 4 rfl, blk_cellv (HS.out.at0) 3 rfl, blk_cellv (HS.out.at2) 2 rfl⟩) (fun hHeld => ?_)
              clear hK K
              refine norm_ (a' := ?_) ?_ ?_
              rotate_left
              · show Act.put _ (some 63) _ = _
                simp only [Act.put, List.setIfInBounds_toArray, List.set_cons_zero, List.set_cons_succ, i64_w, i32_w]
                rfl
              refine one_ (i := 11) (N := some 64) #[true, true, true, true, true, true, true, true, true, true, true, true, false, false, false] rfl rfl (by kernel_rfl) (by decide) (fun K hK => ?_)
              refine slice_step (n := 2) (by rfl) (N := 64) rfl (cs := #[.int .i64 t418, .int .i64 t424]) (t := 3) ?hr ?_
              case hr => first | (go_simp; done) | (go_simp; rfl)
              intro g466 hg w467 hbox hb
              replace HS : Aside0 (Sep (fps []) w [b1 g34 a30 a31 a32 a33, b2 g37 0 0 0 0 0 0 0 0, b2 g194 t191 (wrap64 (a31 - 8)) (wrap64 ((wrap64 (a31 - 8)) + 1)) t360 t387 t371 0 0, b3 g441 2 t412, b3 g459 2 (wrap64 ((wrap64 (a31 - 8)) + 1)), b3 g466 t418 t424] w467) := ⟨HS.out.box hg hbox hb⟩
              clear hg hbox hb
              refine hK.out _ _ (⟨blk_cellv (HS.out.at2) 4 rfl, blk_cellv (HS.out.at0) 3 rfl, blk_cellv (HS.out.at2) 2 rfl⟩) (fun hHeld => ?_)
              clear hK K
              refine norm_ (a' := ?_) ?_ ?_
              rotate_left
              · show Act.put _ (some 64) _ = _
                simp only [Act.put, List.setIfInBounds_toArray, List.set_cons_zero, List.set_cons_succ, i64_w, i32_w]
                rfl
              refine one_ (i := 12) (N := some 65) #[true, true, true, true, true, true, true, true, true, true, true, true, true, false, false] rfl rfl (by kernel_rfl) (by decide) (fun K hK => ?_)
              refine goes_ Tryd.func122 (by kernel_rfl) rfl #[.slice (some ⟨g466, 0, none⟩) 2 2] (by rfl) rfl rfl (by (try simp only [List.map_toArray, List.map_cons, List.map_nil]); first | done | rfl) ?_
              refine (ratio_Add.calls _ [t418, t424] (some ⟨g466, 0, none⟩) 2 t430 _ ⟨Rd.lit (l := []) (xs := [t418, t424]) HS.out 5 rfl (by simp)⟩ ⟨HGl0.out.pass (l := []) HS.out⟩ ⟨Sep.start _⟩ HA431).mono ?_
              rintro e_ w470 ⟨rfl, hS⟩
              replace HS : Aside0 (Sep (fps []) w [b1 g34 a30 a31 a32 a33, b2 g37 0 0 0 0 0 0 0 0, b2 g194 t191 (wrap64 (a31 - 8)) (wrap64 ((wrap64 (a31 - 8)) + 1)) t360 t387 t371 0 0, b3 g441 2 t412, b3 g459 2 (wrap64 ((wrap64 (a31 - 8)) + 1)), b3 g466 t418 t424] w470) := ⟨HS.out.call hS⟩
              clear hS
              refine ⟨_, rfl, ?_⟩
              refine hK.out _ _ (⟨blk_cellv (HS.out.at2) 4 rfl, blk_cellv (HS.out.at0) 3 rfl, blk_cellv (HS.out.at2) 2 rfl⟩) (fun hHeld => ?_)
              clear hK K
              refine norm_ (a' := ?_) ?_ ?_
              rotate_left
              · show Act.put _ (some 65) _ = _
                simp only [Act.put, List.setIfInBounds_toArray, List.set_cons_zero, List.set_cons_succ, i64_w, i32_w]
                rfl
              refine pure_ (i := 13) (N := some 66) (v := ?_) (a' := ?_) #[true, true, true, true, true, true, true, true, true, true, true, true, true, true, false] rfl rfl (by kernel_rfl) (fun _ _ _ h => h) (Or.inl ⟨by rfl, ?_⟩) ?_ ?_
              rotate_left
              · intro w'
                go_simp
                with_reducible rfl
              rotate_left
              · simp only [Act.put, List.setIfInBounds_toArray, List.set_cons_zero, List.set_cons_succ, i64_w, i32_w]
                rfl
              refine one_ (i := 14) (N := none) #[true, true, true, true, true, true, true, true, true, true, true, true, true, true, true] rfl rfl (by kernel_rfl) (by decide) (fun K hK => ?_)
              have hc472 := blk_cellv (v := .int .i64 0) (HS.out.at2) 6 rfl
              have hz473 := blk_fz (HS.out.at2) 6
              refine store_step (w1 := (World.setCell w470 ⟨g194, 6, none⟩ (.int .i64 t430))) (by rfl) rfl ?hr ?_
              case hr => first | (go_simp; done) | (go_simp; rfl)
              clear hc472 hz473
              intro w471 hst
              have hq0 : Sep (fps []) w [b1 g34 a30 a31 a32 a33, b2 g37 0 0 0 0 0 0 0 0, b2 g194 t191 (wrap64 (a31 - 8)) (wrap64 ((wrap64 (a31 - 8)) + 1)) t360 t387 t371 t430 0, b3 g441 2 t412, b3 g459 2 (wrap64 ((wrap64 (a31 - 8)) + 1)), b3 g466 t418 t424] (World.setCell w470 ⟨g194, 6, none⟩ (.int .i64 t430)) := (HS.out).set1 (l1 := [b1 g34 a30 a31 a32 a33, b2 g37 0 0 0 0 0 0 0 0]) (l2 := [b3 g441 2 t412, b3 g459 2 (wrap64 ((wrap64 (a31 - 8)) + 1)), b3 g466 t418 t424]) 6 (.int .i64 t430)
              have HS_ : Aside0 (Sep (fps []) w [b1 g34 a30 a31 a32 a33, b2 g37 0 0 0 0 0 0 0 0, b2 g194 t191 (wrap64 (a31 - 8)) (wrap64 ((wrap64 (a31 - 8)) + 1)) t360 t387 t371 t430 0, b3 g441 2 t412, b3 g459 2 (wrap64 ((wrap64 (a31 - 8)) + 1)), b3 g466 t418 t424] w471) := ⟨by rw [hst]; exact hq0⟩
              clear hq0
              clear HS hst
              have HS := HS_
              clear HS_
              refine hK.out _ _ (⟨blk_cellv (HS.out.at2) 4 rfl, blk_cellv (HS.out.at0) 3 rfl, blk_cellv (HS.out.at2) 2 rfl⟩) (fun hHeld => ?_)
              clear hK K
              refine done_ (by kernel_rfl) ?_
              go_wp2_with fail
              go_meet
              case rel => exact ⟨g441, g459, g466, ⟨((((((HS.out).front 5 (by simp)).front 5 (by simp)).front 5 (by simp)).front 5 (by simp)).front 5 (by simp)).front 5 (by simp)⟩⟩
          · refine slice_step (n := 2) (by rfl) (N := 62) rfl (cs := #[.int .i64 2, .int .i64 (wrap64 ((wrap64 (a31 - 8)) + 1))]) (t := 3) ?hr ?_
            case hr => first | (go_simp; done) | (go_simp; rfl)
            intro g474 hg w475 hbox hb
            replace HS : Aside0 (Sep (fps []) w [b1 g34 a30 a31 a32 a33, b2 g37 0 0 0 0 0 0 0 0, b2 g194 t191 (wrap64 (a31 - 8)) (wrap64 ((wrap64 (a31 - 8)) + 1)) t360 t387 t371 0 0, b3 g474 2 (wrap64 ((wrap64 (a31 - 8)) + 1))] w475) := ⟨HS.out.box hg hbox hb⟩
            clear hg hbox hb
            refine hK.out _ _ (⟨blk_cellv (HS.out.at2) 4 rfl, blk_cellv (HS.out.at0) 3 rfl, blk_cellv (HS.out.at2) 2 rfl⟩) (fun hHeld => ?_)
            clear hK K
            refine norm_ (a' := ?_) ?_ ?_
            rotate_left
            · show Act.put _ (some 62) _ = _
              simp only [Act.put, List.setIfInBounds_toArray, List.set_cons_zero, List.set_cons_succ, i64_w, i32_w]
              rfl
            refine one_ (i := 5) (N := some 58) #[true, true, true, true, true, true, false, true, true, true, false, false, false, false, false] rfl rfl (by kernel_rfl) (by decide) (fun K hK => ?_)
            refine slice_step (n := 2) (by rfl) (N := 58) rfl (cs := #[.int .i64 2, .int .i64 t412]) (t := 3) ?hr ?_
            case hr => first | (go_simp; done) | (go_simp; rfl)
            intro g477 hg w478 hbox hb
            replace HS : Aside0 (Sep (fps []) w [b1 g34 a30 a31 a32 a33, b2 g37 0 0 0 0 0 0 0 0, b2 g194 t191 (wrap64 (a31 - 8)) (wrap64 ((wrap64 (a31 - 8)) + 1)) t360 t387 t371 0 0, b3 g474 2 (wrap64 ((wrap64 (a31 - 8)) + 1)), b3 g477 2 t412] w478) := ⟨HS.out.box hg hbox hb⟩
            clear hg hbox hb
            refine hK.out _ _ (⟨blk_cellv (HS.out.at2) 4 rfl, blk_cellv (HS.out.at0) 3 rfl, blk_cellv (HS.out.at2) 2 rfl⟩) (fun hHeld => ?_)
            clear hK K
            refine norm_ (a' := ?_) ?_ ?_
            rotate_left
            · show Act.put _ (some 58) _ = _
              simp only [Act.put, List.setIfInBounds_toArray, List.set_cons_zero, List.set_cons_succ, i64_w, i32_w]
              rfl
            refine one_ (i := 6) (N := some 59) #[true, true, true, true, true, true, true, true, true, true, false, false, false, false, false] rfl rfl (by kernel_rfl) (by decide) (fun K hK => ?_)
            refine goes_ Tryd.func123 (by kernel_rfl) rfl #[.slice (some ⟨g477, 0, none⟩) 2 2] (by rfl) rfl rfl (by (try simp only [List.map_toArray, List.map_cons, List.map_nil]); first | done | rfl) ?_
            refine (ratio_Mul.calls _ [2, t412] (some ⟨g477, 0, none⟩) 2 t418 _ ⟨Rd.lit (l := []) (xs := [2, t412]) HS.out 4 rfl (by simp)⟩ ⟨HGl0.out.pass (l := []) HS.out⟩ ⟨Sep.start _⟩ HA419).mono ?_
            rintro e_ w481 ⟨rfl, hS⟩
            replace HS : Aside0 (Sep (fps []) w [b1 g34 a30 a31 a32 a33, b2 g37 0 0 0 0 0 0 0 0, b2 g194 t191 (wrap64 (a31 - 8)) (wrap64 ((wrap64 (a31 - 8)) + 1)) t360 t387 t371 0 0, b3 g474 2 (wrap64 ((wrap64 (a31 - 8)) + 1)), b3 g477 2 t412] w481) := ⟨HS.out.call hS⟩
            clear hS
            refine ⟨_, rfl, ?_⟩
            refine hK.out _ _ (⟨blk_cellv (HS.out.at2) 4 rfl, blk_cellv (HS.out.at0) 3 rfl, blk_cellv (HS.out.at2) 2 rfl⟩) (fun hHeld => ?_)
            clear hK K
            refine norm_ (a' := ?_) ?_ ?_
            rotate_left
            · show Act.put _ (some 59) _ = _
              simp only [Act.put, List.setIfInBounds_toArray, List.set_cons_zero, List.set_cons_succ, i64_w, i32_w]
              rfl
            refine one_ (i := 10) (N := some 63) #[true, true, true, true, true, true, true, true, true, true, true, false, false, false, false] rfl rfl (by kernel_rfl) (by decide) (fun K hK => ?_)
            refine goes_ Tryd.func123 (by kernel_rfl) rfl #[.slice (some ⟨g474, 0, none⟩) 2 2] (by rfl) rfl rfl (by (try simp only [List.map_toArray, List.map_cons, List.map_nil]); first | done | rfl) ?_
            refine (ratio_Mul.calls _ [2, wrap64 ((wrap64 (a31 - 8)) + 1)] (some ⟨g474, 0, none⟩) 2 t424 _ ⟨Rd.lit (l := []) (xs := [2, wrap64 ((wrap64 (a31 - 8)) + 1)]) HS.out 3 rfl (by simp)⟩ ⟨HGl0.out.pass (l := []) HS.out⟩ ⟨Sep.start _⟩ HA425).mono ?_
            rintro e_ w483 ⟨rfl, hS⟩
            replace HS : Aside0 (Sep (fps []) w [b1 g34 a30 a31 a32 a33, b2 g37 0 0 0 0 0 0 0 0, b2 g194 t191 (wrap64 (a31 - 8)) (wrap64 ((wrap64 (a31 - 8)) + 1)) t360 t387 t371 0 0, b3 g474 2 (wrap64 ((wrap64 (a31 - 8)) + 1)), b3 g477 2 t412] w483) := ⟨HS.out.call hS⟩
            clear hS
            refine ⟨_, rfl, ?_⟩
            refine hK.out _ _ (⟨blk_cellv (HS.out.at2) 4 rfl, blk_cellv (HS.out.at0) 3 rfl, blk_cellv (HS.out.at2) 2 rfl⟩) (fun hHeld => ?_)
            clear hK K
            refine norm_ (a' := ?_) ?_ ?_
            rotate_left
            · show Act.put _ (some 63) _ = _
              simp only [Act.put, List.setIfInBounds_toArray, List.set_cons_zero, List.set_cons_succ, i64_w, i32_w]
              rfl
            refine one_ (i := 11) (N := some 64) #[true, true, true, true, true, true, true, true, true, true, true, true, false, false, false] rfl rfl (by kernel_rfl) (by decide) (fun K hK => ?_)
            refine slice_step (n := 2) (by rfl) (N := 64) rfl (cs := #[.int .i64 t418, .int .i64 t424]) (t := 3) ?hr ?_
            case hr => first | (go_simp; done) | (go_simp; rfl)
            intro g484 hg w485 hbox hb
            replace HS : Aside0 (Sep (fps []) w [b1 g34 a30 a31 a32 a33, b2 g37 0 0 0 0 0 0 0 0, b2 g194 t191 (wrap64 (a31 - 8)) (wrap64 ((wrap64 (a31 - 8)) + 1)) t360 t387 t371 0 0, b3 g474 2 (wrap64 ((wrap64 (a31 - 8)) + 1)), b3 g477 2 t412, b3 g484 t418 t424] w485) := ⟨HS.out.box hg hbox hb⟩
            clear hg hbox hb
            refine hK.out _ _ (⟨blk_cellv (HS.out.at2) 4 rfl, blk_cellv (HS.out.at0) 3 rfl, blk_cellv (HS.out.at2) 2 rfl⟩) (fun hHeld => ?_)
            clear hK K
            refine norm_ (a' := ?_) ?_ ?_
            rotate_left
            · show Act.put _ (some 64) _ = _
              simp only [Act.put, List.setIfInBounds_toArray, List.set_cons_zero, List.set_cons_succ, i64_w, i32_w]
              rfl
            refine one_ (i := 12) (N := some 65) #[true, true, true, true, true, true, true, true, true, true, true, true, true, false, false] rfl rfl (by kernel_rfl) (by decide) (fun K hK => ?_)
            refine goes_ Tryd.func122 (by kernel_rfl) rfl #[.slice (some ⟨g484, 0, none⟩) 2 2] (by rfl) rfl rfl (by (try simp only [List.map_toArray, List.map_cons, List.map_nil]); first | done | rfl) ?_
            refine (ratio_Add.calls _ [t418, t424] (some ⟨g484, 0, none⟩) 2 t430 _ ⟨Rd.lit (l := []) (xs := [t418, t424]) HS.out 5 rfl (by simp)⟩ ⟨HGl0.out.pass (l := []) HS.out⟩ ⟨Sep.start _⟩ HA431).mono ?_
            rintro e_ w488 ⟨rfl, hS⟩
            replace HS : Aside0 (Sep (fps []) w [b1 g34 a30 a31 a32 a33, b2 g37 0 0 0 0 0 0 0 0, b2 g194 t191 (wrap64 (a31 - 8)) (wrap64 ((wrap64 (a31 - 8)) + 1)) t360 t387 t371 0 0, b3 g474 2 (wrap64 ((wrap64 (a31 - 8)) + 1)), b3 g477 2 t412, b3 g484 t418 t424] w488) := ⟨HS.out.call hS⟩
            clear hS
            refine ⟨_, rfl, ?_⟩
            refine hK.out _ _ (⟨blk_cellv (HS.out.at2) 4 rfl, blk_cellv (HS.out.at0) 3 rfl, blk_cellv (HS.out.at2) 2 rfl⟩) (fun hHeld => ?_)
            clear hK K
            refine norm_ (a' := ?_) ?_ ?_
            rotate_left
            · show Act.put _ (some 65) _ = _
              simp only [Act.put, List.setIfInBounds_toArray, List.set_cons_zero, List.set_cons_succ, i64_w, i32_w]
              rfl
            refine pure_ (i := 13) (N := some 66) (v := ?_) (a' := ?_) #[true, true, true, true, true, true, true, true, true, true, true, true, true, true, false] rfl rfl (by kernel_rfl) (fun _ _ _ h => h) (Or.inl ⟨by rfl, ?_⟩) ?_ ?_
            rotate_left
            · intro w'
              go_simp
              with_reducible rfl
            rotate_left
            · simp only [Act.put, List.setIfInBounds_toArray, List.set_cons_zero, List.set_cons_succ, i64_w, i32_w]
              rfl
            refine one_ (i := 14) (N := none) #[true, true, true, true, true, true, true, true, true, true, true, true, true, true, true] rfl rfl (by kernel_rfl) (by decide) (fun K hK => ?_)
            have hc490 := blk_cellv (v := .int .i64 0) (HS.out.at2) 6 rfl
            have hz491 := blk_fz (HS.out.at2) 6
            refine store_step (w1 := (World.setCell w488 ⟨g194, 6, none⟩ (.int .i64 t430))) (by rfl) rfl ?hr ?_
            case hr => first | (go_simp; done) | (go_simp; rfl)
            clear hc490 hz491
            intro w489 hst
            have hq0 : Sep (fps []) w [b1 g34 a30 a31 a32 a33, b2 g37 0 0 0 0 0 0 0 0, b2 g194 t191 (wrap64 (a31 - 8)) (wrap64 ((wrap64 (a31 - 8)) + 1)) t360 t387 t371 t430 0, b3 g474 2 (wrap64 ((wrap64 (a31 - 8)) + 1)), b3 g477 2 t412, b3 g484 t418 t424] (World.setCell w488 ⟨g194, 6, none⟩ (.int .i64 t430)) := (HS.out).set1 (l1 := [b1 g34 a30 a31 a32 a33, b2 g37 0 0 0 0 0 0 0 0]) (l2 := [b3 g474 2 (wrap64 ((wrap64 (a31 - 8)) + 1)), b3 g477 2 t412, b3 g484 t418 t424]) 6 (.int .i64 t430)
            have HS_ : Aside0 (Sep (fps []) w [b1 g34 a30 a31 a32 a33, b2 g37 0 0 0 0 0 0 0 0, b2 g194 t191 (wrap64 (a31 - 8)) (wrap64 ((wrap64 (a31 - 8)) + 1)) t360 t387 t371 t430 0, b3 g474 2 (wrap64 ((wrap64 (a31 - 8)) + 1)), b3 g477 2 t412, b3 g484 t418 t424] w489) := ⟨by rw [hst]; exact hq0⟩
            clear hq0
            clear HS hst
            have HS := HS_
            clear HS_
            refine hK.out _ _ (⟨blk_cellv (HS.out.at2) 4 rfl, blk_cellv (HS.out.at0) 3 rfl, blk_cellv (HS.out.at2) 2 rfl⟩) (fun hHeld => ?_)
            clear hK K
            refine done_ (by kernel_rfl) ?_
            go_wp2_with fail
            go_meet
            case rel => exact ⟨g477, g474, g484, ⟨((((((HS.out).front 5 (by simp)).front 4 (by simp)).front 5 (by simp)).front 5 (by simp)).front 5 (by simp)).front 5 (by simp)⟩⟩
        · refine slice_step (n := 2) (by rfl) (N := 62) rfl (cs := #[.int .i64 2, .int .i64 (wrap64 ((wrap64 (a31 - 8)) + 1))]) (t := 3) ?hr ?_
          case hr => first | (go_simp; done) | (go_simp; rfl)
          intro g492 hg w493 hbox hb
          replace HS : Aside0 (Sep (fps []) w [b1 g34 a30 a31 a32 a33, b2 g37 0 0 0 0 0 0 0 0, b2 g194 t191 (wrap64 (a31 - 8)) (wrap64 ((wrap64 (a31 - 8)) + 1)) t360 t387 t371 0 0, b3 g492 2 (wrap64 ((wrap64 (a31 - 8)) + 1))] w493) := ⟨HS.out.box hg hbox hb⟩
          clear hg hbox hb
          refine hK.out _ _ (⟨blk_cellv (HS.out.at2) 4 rfl, blk_cellv (HS.out.at0) 3 rfl, blk_cellv (HS.out.at2) 2 rfl⟩) (fun hHeld => ?_)
          clear hK K
          refine norm_ (a' := ?_) ?_ ?_
          rotate_left
          · show Act.put _ (some 62) _ = _
            simp only [Act.put, List.setIfInBounds_toArray, List.set_cons_zero, List.set_cons_succ, i64_w, i32_w]
            rfl
          refine one_ (i := 4) (N := some 57) #[true, true, true, true, true, false, false, true, true, true, false, false, false, false, false] rfl rfl (by kernel_rfl) (by decide) (fun K hK => ?_)
          refine goes_ Tryd.func124 (by kernel_rfl) rfl #[.int .i64 t387, .int .i64 a33] (by rfl) rfl rfl (by (try simp only [List.map_toArray, List.map_cons, List.map_nil]); first | done | rfl) ?_
          refine (ratio_Up.calls t387 a33 t412 _ ⟨HGl0.out.pass (l := []) HS.out⟩ ⟨Sep.start _⟩ HA413).mono ?_
          rintro e_ w496 ⟨rfl, hS⟩
          replace HS : Aside0 (Sep (fps []) w [b1 g34 a30 a31 a32 a33, b2 g37 0 0 0 0 0 0 0 0, b2 g194 t191 (wrap64 (a31 - 8)) (wrap64 ((wrap64 (a31 - 8)) + 1)) t360 t387 t371 0 0, b3 g492 2 (wrap64 ((wrap64 (a31 - 8)) + 1))] w496) := ⟨HS.out.call hS⟩
          clear hS
          refine ⟨_, rfl, ?_⟩
          refine hK.out _ _ (⟨blk_cellv (HS.out.at2) 4 rfl, blk_cellv (HS.out.at0) 3 rfl, blk_cellv (HS.out.at2) 2 rfl⟩) (fun hHeld => ?_)
          clear hK K
          refine norm_ (a' := ?_) ?_ ?_
          rotate_left
          · show Act.put _ (some 57) _ = _
            simp only [Act.put, List.setIfInBounds_toArray, List.set_cons_zero, List.set_cons_succ, i64_w, i32_w]
            rfl
          refine one_ (i := 5) (N := some 58) #[true, true, true, true, true, true, false, true, true, true, false, false, false, false, false] rfl rfl (by kernel_rfl) (by decide) (fun K hK => ?_)
          refine slice_step (n := 2) (by rfl) (N := 58) rfl (cs := #[.int .i64 2, .int .i64 t412]) (t := 3) ?hr ?_
          case hr => first | (go_simp; done) | (go_simp; rfl)
          intro g497 hg w498 hbox hb
          replace HS : Aside0 (Sep (fps []) w [b1 g34 a30 a31 a32 a33, b2 g37 0 0 0 0 0 0 0 0, b2 g194 t191 (wrap64 (a31 - 8)) (wrap64 ((wrap64 (a31 - 8)) + 1)) t360 t387 t371 0 0, b3 g492 2 (wrap64 ((wrap64 (a31 - 8)) + 1)), b3 g497 2 t412] w498) := ⟨HS.out.box hg hbox hb⟩
          clear hg hbox hb
          refine hK.out _ _ (⟨blk_cellv (HS.out.at2) 4 rfl, blk_cellv (HS.out.at0) 3 rfl, blk_cellv (HS.out.at2) 2 rfl⟩) (fun hHeld => ?_)
          clear hK K
          refine norm_ (a' := ?_) ?_ ?_
          rotate_left
          · show Act.put _ (some 58) _ = _
            simp only [Act.put, List.setIfInBounds_toArray, List.set_cons_zero, List.set_cons_succ, i64_w, i32_w]
            rfl
          refine one_ (i := 6) (N := some 59) #[true, true, true, true, true, true, true, true, true, true, false, false, false, false, false] rfl rfl (by kernel_rfl) (by decide) (fun K hK => ?_)
          refine goes_ Tryd.func123 (by kernel_rfl) rfl #[.slice (some ⟨g497, 0, none⟩) 2 2] (by rfl) rfl rfl (by (try simp only [List.map_toArray, List.map_cons, List.map_nil]); first | done | rfl) ?_
          refine (ratio_Mul.calls _ [2, t412] (some ⟨g497, 0, none⟩) 2 t418 _ ⟨Rd.lit (l := []) (xs := [2, t412]) HS.out 4 rfl (by simp)⟩ ⟨HGl0.out.pass (l := []) HS.out⟩ ⟨Sep.start _⟩ HA419).mono ?_
          rintro e_ w501 ⟨rfl, hS⟩
          replace HS : Aside0 (Sep (fps []) w [b1 g34 a30 a31 a32 a33, b2 g37 0 0 0 0 0 0 0 0, b2 g194 t191 (wrap64 (a31 - 8)) (wrap64 ((wrap64 (a31 - 8)) + 1)) t360 t387 t371 0 0, b3 g492 2 (wrap64 ((wrap64 (a31 - 8)) + 1)), b3 g497 2 t412] w501) := ⟨HS.out.call hS⟩
          clear hS
          refine ⟨_, rfl, ?_⟩
          refine hK.out _ _ (⟨blk_cellv (HS.out.at2) 4 rfl, blk_cellv (HS.out.at0) 3 rfl, blk_cellv (HS.out.at2) 2 rfl⟩) (fun hHeld => ?_)
          clear hK K
          refine norm_ (a' := ?_) ?_ ?_
          rotate_left
          · show Act.put _ (some 59) _ = _
            simp only [Act.put, List.setIfInBounds_toArray, List.set_cons_zero, List.set_cons_succ, i64_w, i32_w]
            rfl
          refine one_ (i := 10) (N := some 63) #[true, true, true, true, true, true, true, true, true, true, true, false, false, false, false] rfl rfl (by kernel_rfl) (by decide) (fun K hK => ?_)
          refine goes_ Tryd.func123 (by kernel_rfl) rfl #[.slice (some ⟨g492, 0, none⟩) 2 2] (by rfl) rfl rfl (by (try simp only [List.map_toArray, List.map_cons, List.map_nil]); first | done | rfl) ?_
          refine (ratio_Mul.calls _ [2, wrap64 ((wrap64 (a31 - 8)) + 1)] (some ⟨g492, 0, none⟩) 2 t424 _ ⟨Rd.lit (l := []) (xs := [2, wrap64 ((wrap64 (a31 - 8)) + 1)]) HS.out 3 rfl (by simp)⟩ ⟨HGl0.out.pass (l := []) HS.out⟩ ⟨Sep.start _⟩ HA425).mono ?_
          rintro e_ w503 ⟨rfl, hS⟩
          replace HS : Aside0 (Sep (fps []) w [b1 g34 a30 a31 a32 a33, b2 g37 0 0 0 0 0 0 0 0, b2 g194 t191 (wrap64 (a31 - 8)) (wrap64 ((wrap64 (a31 - 8)) + 1)) t360 t387 t371 0 0, b3 g492 2 (wrap64 ((wrap64 (a31 - 8)) + 1)), b3 g497 2 t412] w503) := ⟨HS.out.call hS⟩
          clear hS
          refine ⟨_, rfl, ?_⟩
          refine hK.out _ _ (⟨blk_cellv (HS.out.at2) 4 rfl, blk_cellv (HS.out.at0) 3 rfl, blk_cellv (HS.out.at2) 2 rfl⟩) (fun hHeld => ?_)
          clear hK K
          refine norm_ (a' := ?_) ?_ ?_
          rotate_left
          · show Act.put _ (some 63) _ = _
            simp only [Act.put, List.setIfInBounds_toArray, List.set_cons_zero, List.set_cons_succ, i64_w, i32_w]
            rfl
          refine one_ (i := 11) (N := some 64) #[true, true, true, true, true, true, true, true, true, true, true, true, false, false, false] rfl rfl (by kernel_rfl) (by decide) (fun K hK => ?_)
          refine slice_step (n := 2) (by rfl) (N := 64) rfl (cs := #[.int .i64 t418, .int .i64 t424]) (t := 3) ?hr ?_
          case hr => first | (go_simp; done) | (go_simp; rfl)
          intro g504 hg w505 hbox hb
          replace HS : Aside0 (Sep (fps []) w [b1 g34 a30 a31 a32 a33, b2 g37 0 0 0 0 0 0 0 0, b2 g194 t191 (wrap64 (a31 - 8)) (wrap64 ((wrap64 (a31 - 8)) + 1)) t360 t387 t371 0 0, b3 g492 2 (wrap64 ((wrap64 (a31 - 8)) + 1)), b3 g497 2 t412, b3 g504 t418 t424] w505) := ⟨HS.out.box hg hbox hb⟩
          clear hg hbox hb
          refine hK.out _ _ (⟨blk_cellv (HS.out.at2) 4 rfl, blk_cellv (HS.out.at0) 3 rfl, blk_cellv (HS.out.at2) 2 rfl⟩) (fun hHeld => ?_)
          clear hK K
          refine norm_ (a' := ?_) ?_ ?_
          rotate_left
          · show Act.put _ (some 64) _ = _
            simp only [Act.put, List.setIfInBounds_toArray, List.set_cons_zero, List.set_cons_succ, i64_w, i32_w]
            rfl
          refine one_ (i := 12) (N := some 65) #[true, true, true, true, true, true, true, true, true, true, true, true, true, false, false] rfl rfl (by kernel_rfl) (by decide) (fun K hK => ?_)
          refine goes_ Tryd.func122 (by kernel_rfl) rfl #[.slice (some ⟨g504, 0, none⟩) 2 2] (by rfl) rfl rfl (by (try simp only [List.map_toArray, List.map_cons, List.map_nil]); first | done | rfl) ?_
          refine (ratio_Add.calls _ [t418, t424] (some ⟨g504, 0, none⟩) 2 t430 _ ⟨Rd.lit (l := []) (xs := [t418, t424]) HS.out 5 rfl (by simp)⟩ ⟨HGl0.out.pass (l := []) HS.out⟩ ⟨Sep.start _⟩ HA431).mono ?_
          rintro e_ w508 ⟨rfl, hS⟩
          replace HS : Aside0 (Sep (fps []) w [b1 g34 a30 a31 a32 a33, b2 g37 0 0 0 0 0 0 0 0, b2 g194 t191 (wrap64 (a31 - 8)) (wrap64 ((wrap64 (a31 - 8)) + 1)) t360 t387 t371 0 0, b3 g492 2 (wrap64 ((wrap64 (a31 - 8)) + 1)), b3 g497 2 t412, b3 g504 t418 t424] w508) := ⟨HS.out.call hS⟩
          clear hS
          refine ⟨_, rfl, ?_⟩
          refine hK.out _ _ (⟨blk_cellv (HS.out.at2) 4 rfl, blk_cellv (HS.out.at0) 3 rfl, blk_cellv (HS.out.at2) 2 rfl⟩) (fun hHeld => ?_)
          clear hK K
          refine norm_ (a' := ?_) ?_ ?_
          rotate_left
          · show Act.put _ (some 65) _ = _
            simp only [Act.put, List.setIfInBounds_toArray, List.set_cons_zero, List.set_cons_succ, i64_w, i32_w]
            rfl
          refine pure_ (i := 13) (N := some 66) (v := ?_) (a' := ?_) #[true, true, true, true, true, true, true, true, true, true, true, true, true, true, false] rfl rfl (by kernel_rfl) (fun _ _ _ h => h) (Or.inl ⟨by rfl, ?_⟩) ?_ ?_
          rotate_left
          · intro w'
            go_simp
            with_reducible rfl
          rotate_left
          · simp only [Act.put, List.setIfInBounds_toArray, List.set_cons_zero, List.set_cons_succ, i64_w, i32_w]
            rfl
          refine one_ (i := 14) (N := none) #[true, true, true, true, true, true, true, true, true, true, true, true, true, true, true] rfl rfl (by kernel_rfl) (by decide) (fun K hK => ?_)
          have hc510 := blk_cellv (v := .int .i64 0) (HS.out.at2) 6 rfl
          have hz511 := blk_fz (HS.out.at2) 6
          refine store_step (w1 := (World.setCell w508 ⟨g194, 6, none⟩ (.int .i64 t430))) (by rfl) rfl ?hr ?_
          case hr => first | (go_simp; done) | (go_simp; rfl)
          clear hc510 hz511
          intro w509 hst
          have hq0 : Sep (fps []) w [b1 g34 a30 a31 a32 a33, b2 g37 0 0 0 0 0 0 0 0, b2 g194 t191 (wrap64 (a31 - 8)) (wrap64 ((wrap64 (a31 - 8)) + 1)) t360 t387 t371 t430 0, b3 g492 2 (wrap64 ((wrap64 (a31 - 8)) + 1)), b3 g497 2 t412, b3 g504 t418 t424] (World.setCell w508 ⟨g194, 6, none⟩ (.int .i64 t430)) := (HS.out).set1 (l1 := [b1 g34 a30 a31 a32 a33, b2 g37 0 0 0 0 0 0 0 0]) (l2 := [b3 g492 2 (wrap64 ((wrap64 (a31 - 8)) + 1)), b3 g497 2 t412, b3 g504 t418 t424]) 6 (.int .i64 t430)
          have HS_ : Aside0 (Sep (fps []) w [b1 g34 a30 a31 a32 a33, b2 g37 0 0 0 0 0 0 0 0, b2 g194 t191 (wrap64 (a31 - 8)) (wrap64 ((wrap64 (a31 - 8)) + 1)) t360 t387 t371 t430 0, b3 g492 2 (wrap64 ((wrap64 (a31 - 8)) + 1)), b3 g497 2 t412, b3 g504 t418 t424] w509) := ⟨by rw [hst]; exact hq0⟩
          clear hq0
          clear HS hst
          have HS := HS_
          clear HS_
          refine hK.out _ _ (⟨blk_cellv (HS.out.at2) 4 rfl, blk_cellv (HS.out.at0) 3 rfl, blk_cellv (HS.out.at2) 2 rfl⟩) (fun hHeld => ?_)
          clear hK K
          refine done_ (by kernel_rfl) ?_
          go_wp2_with fail
          go_meet
          case rel => exact ⟨g497, g492, g504, ⟨((((((HS.out).front 5 (by simp)).front 4 (by simp)).front 5 (by simp)).front 5 (by simp)).front 5 (by simp)).front 5 (by simp)⟩⟩
      case rest =>
        clear HS
        obtain ⟨g415, g421, g427, HS⟩ := hcut
        obtain ⟨w436, rfl⟩ : ∃ x : World, x = wc := ⟨_, rfl⟩
        replace HS : Aside0 (Sep (fps []) w [b1 g34 a30 a31 a32 a33, b2 g37 0 0 0 0 0 0 0 0, b2 g194 t191 (wrap64 (a31 - 8)) (wrap64 ((wrap64 (a31 - 8)) + 1)) t360 t387 t371 t430 0] w436) := ⟨HS.out.sub (.cons_cons _ (.cons_cons _ (.cons_cons _ (.cons _ (.cons _ (.cons _ .slnil))))))⟩
        go_wp2_with fail
        refine start_ (n := 15) (S := (fun w' => w'.cell? ⟨g194, 4, none⟩ = some (.int .i64 t387) ∧ w'.cell? ⟨g194, 5, none⟩ = some (.int .i64 t371) ∧ w'.cell? ⟨g34, 3, none⟩ = some (.int .i64 a33))) (ds := []) #[false, false, false, false, false, false, false, false, false, false, false, false, false, false, false] (by kernel_rfl) rfl rfl (⟨blk_cellv ((HS.out.drew).at2) 4 rfl, blk_cellv ((HS.out.drew).at2) 5 rfl, blk_cellv ((HS.out.drew).at0) 3 rfl⟩) (fun hHeld => ?_)
        have HS_ := Aside0.mk HS.out.drew
        clear HS
        generalize World.drew _ = w513 at HS_ hHeld ⊢
        have HS := HS_
        clear HS_
        refine pure_ (i := 0) (N := some 67) (v := ?_) (a' := ?_) #[true, false, false, false, false, false, false, false, false, false, false, false, false, false, false] rfl rfl (by kernel_rfl) (fun _ _ _ h => h) (Or.inl ⟨by rfl, ?_⟩) ?_ ?_
        rotate_left
        · intro w'
          go_simp
          with_reducible rfl
        rotate_left
        · simp only [Act.put, List.setIfInBounds_toArray, List.set_cons_zero, List.set_cons_succ, i64_w, i32_w]
          rfl
        refine pure_ (i := 2) (N := some 69) (v := ?_) (a' := ?_) #[true, false, true, false, false, false, false, false, false, false, false, false, false, false, false] rfl rfl (by kernel_rfl) (fun _ _ _ h => h) (Or.inl ⟨by rfl, ?_⟩) ?_ ?_
        rotate_left
        · intro w'
          go_simp
          with_reducible rfl
        rotate_left
        · simp only [Act.put, List.setIfInBounds_toArray, List.set_cons_zero, List.set_cons_succ, i64_w, i32_w]
          rfl
        refine pure_ (i := 4) (N := some 71) (v := ?_) (a' := ?_) #[true, false, true, false, true, false, false, false, false, false, false, false, false, false, false] rfl rfl (by kernel_rfl) (fun _ _ _ h => h) (Or.inl ⟨by rfl, ?_⟩) ?_ ?_
        rotate_left
        · intro w'
          go_simp
          with_reducible rfl
        rotate_left
        · simp only [Act.put, List.setIfInBounds_toArray, List.set_cons_zero, List.set_cons_succ, i64_w, i32_w]
          rfl
        refine pure_ (i := 8) (N := some 75) (v := ?_) (a' := ?_) #[true, false, true, false, true, false, false, false, true, false, false, false, false, false, false] rfl rfl (by kernel_rfl) (fun _ _ _ h => h) (Or.inl ⟨by rfl, ?_⟩) ?_ ?_
        rotate_left
        · intro w'
          go_simp
          with_reducible rfl
        rotate_left
        · simp only [Act.put, List.setIfInBounds_toArray, List.set_cons_zero, List.set_cons_succ, i64_w, i32_w]
          rfl
        refine take_ (i := 1) (N := some 68) (v := ?_) (a' := ?_) #[true, true, true, false, true, false, false, false, true, false, false, false, false, false, false] rfl rfl (by kernel_rfl) (fun _ _ _ h => h) (Or.inl ⟨by rfl, ?_⟩) hHeld ?_ ?_
        rotate_left
        · rintro w' hS'
          obtain ⟨s0, s1, s2⟩ := hS'
          go_simp
          with_reducible rfl
        rotate_left
        · simp only [Act.put, List.setIfInBounds_toArray, List.set_cons_zero, List.set_cons_succ, i64_w, i32_w]
          rfl
        refine take_ (i := 3) (N := some 70) (v := ?_) (a' := ?_) #[true, true, true, true, true, false, false, false, true, false, false, false, false, false, false] rfl rfl (by kernel_rfl) (fun _ _ _ h => h) (Or.inl ⟨by rfl, ?_⟩) hHeld ?_ ?_
        rotate_left
        · rintro w' hS'
          obtain ⟨s0, s1, s2⟩ := hS'
          go_simp
          with_reducible rfl
        rotate_left
        · simp only [Act.put, List.setIfInBounds_toArray, List.set_cons_zero, List.set_cons_succ, i64_w, i32_w]
          rfl
        refine take_ (i := 5) (N := some 72) (v := ?_) (a' := ?_) #[true, true, true, true, true, true, false, false, true, false, false, false, false, false, false] rfl rfl (by kernel_rfl) (fun _ _ _ h => h) (Or.inl ⟨by rfl, ?_⟩) hHeld ?_ ?_
        rotate_left
        · rintro w' hS'
          obtain ⟨s0, s1, s2⟩ := hS'
          go_simp
          with_reducible rfl
        rotate_left
        · simp only [Act.put, List.setIfInBounds_toArray, List.set_cons_zero, List.set_cons_succ, i64_w, i32_w]
          rfl
        refine take_ (i := 9) (N := some 76) (v := ?_) (a' := ?_) #[true, true, true, true, true, true, false, false, true, true, false, false, false, false, false] rfl rfl (by kernel_rfl) (fun _ _ _ h => h) (Or.inl ⟨by rfl, ?_⟩) hHeld ?_ ?_
        rotate_left
        · rintro w' hS'
          obtain ⟨s0, s1, s2⟩ := hS'
          go_simp
          with_reducible rfl
        rotate_left
        · simp only [Act.put, List.setIfInBounds_toArray, List.set_cons_zero, List.set_cons_succ, i64_w, i32_w]
          rfl
        refine one_ (i := 6) (N := some 73) #[true, true, true, true, true, true, true, false, true, true, false, false, false, false, false] rfl rfl (by kernel_rfl) (by decide) (fun K hK => ?_)
        refine slice_step (n := 3) (by rfl) (N := 73) rfl (cs := #[.int .i64 t387, .int .i64 t387, .int .i64 t371]) (t := 3) ?hr ?_
        case hr => first | (go_simp; done) | (go_simp; rfl)
        intro g514 hg w515 hbox hb
        replace HS : Aside0 (Sep (fps []) w [b1 g34 a30 a31 a32 a33, b2 g37 0 0 0 0 0 0 0 0, b2 g194 t191 (wrap64 (a31 - 8)) (wrap64 ((wrap64 (a31 - 8)) + 1)) t360 t387 t371 t430 0, b4 g514 t387 t387 t371] w515) := ⟨HS.out.box hg hbox hb⟩
        clear hg hbox hb
        refine hK.out _ _ (⟨blk_cellv (HS.out.at2) 4 rfl, blk_cellv (HS.out.at2) 5 rfl, blk_cellv (HS.out.at0) 3 rfl⟩) (fun hHeld => ?_)
        clear hK K
        refine norm_ (a' := ?_) ?_ ?_
        rotate_left
        · show Act.put _ (some 73) _ = _
          simp only [Act.put, List.setIfInBounds_toArray, List.set_cons_zero, List.set_cons_succ, i64_w, i32_w]
          rfl
        refine one_ (i := 7) (N := some 74) #[true, true, true, true, true, true, true, true, true, true, false, false, false, false, false] rfl rfl (by kernel_rfl) (by decide) (fun K hK => ?_)
        obtain ⟨t517, HA518, H⟩ := bind_some H
        refine goes_ Tryd.func122 (by kernel_rfl) rfl #[.slice (some ⟨g514, 0, none⟩) 3 3] (by rfl) rfl rfl (by (try simp only [List.map_toArray, List.map_cons, List.map_nil]); first | done | rfl) ?_
        refine (ratio_Add.calls _ [t387, t387, t371] (some ⟨g514, 0, none⟩) 3 t517 _ ⟨Rd.lit (l := []) (xs := [t387, t387, t371]) HS.out 3 rfl (by simp)⟩ ⟨HGl0.out.pass (l := []) HS.out⟩ ⟨Sep.start _⟩ HA518).mono ?_
        rintro e_ w519 ⟨rfl, hS⟩
        replace HS : Aside0 (Sep (fps []) w [b1 g34 a30 a31 a32 a33, b2 g37 0 0 0 0 0 0 0 0, b2 g194 t191 (wrap64 (a31 - 8)) (wrap64 ((wrap64 (a31 - 8)) + 1)) t360 t387 t371 t430 0, b4 g514 t387 t387 t371] w519) := ⟨HS.out.call hS⟩
        clear hS
        refine ⟨_, rfl, ?_⟩
        refine hK.out _ _ (⟨blk_cellv (HS.out.at2) 4 rfl, blk_cellv (HS.out.at2) 5 rfl, blk_cellv (HS.out.at0) 3 rfl⟩) (fun hHeld => ?_)
        clear hK K
        refine norm_ (a' := ?_) ?_ ?_
        rotate_left
        · show Act.put _ (some 74) _ = _
          simp only [Act.put, List.setIfInBounds_toArray, List.set_cons_zero, List.set_cons_succ, i64_w, i32_w]
          rfl
        refine one_ (i := 10) (N := some 77) #[true, true, true, true, true, true, true, true, true, true, true, false, false, false, false] rfl rfl (by kernel_rfl) (by decide) (fun K hK => ?_)
        obtain ⟨t520, HA521, H⟩ := bind_some H
        refine goes_ Tryd.func124 (by kernel_rfl) rfl #[.int .i64 t517, .int .i64 a33] (by rfl) rfl rfl (by (try simp only [List.map_toArray, List.map_cons, List.map_nil]); first | done | rfl) ?_
        refine (ratio_Up.calls t517 a33 t520 _ ⟨HGl0.out.pass (l := []) HS.out⟩ ⟨Sep.start _⟩ HA521).mono ?_
        rintro e_ w522 ⟨rfl, hS⟩
        replace HS : Aside0 (Sep (fps []) w [b1 g34 a30 a31 a32 a33, b2 g37 0 0 0 0 0 0 0 0, b2 g194 t191 (wrap64 (a31 - 8)) (wrap64 ((wrap64 (a31 - 8)) + 1)) t360 t387 t371 t430 0, b4 g514 t387 t387 t371] w522) := ⟨HS.out.call hS⟩
        clear hS
        refine ⟨_, rfl, ?_⟩
        refine hK.out _ _ (⟨blk_cellv (HS.out.at2) 4 rfl, blk_cellv (HS.out.at2) 5 rfl, blk_cellv (HS.out.at0) 3 rfl⟩) (fun hHeld => ?_)
        clear hK K
        refine norm_ (a' := ?_) ?_ ?_
        rotate_left
        · show Act.put _ (some 77) _ = _
          simp only [Act.put, List.setIfInBounds_toArray, List.set_cons_zero, List.set_cons_succ, i64_w, i32_w]
          rfl
        refine one_ (i := 11) (N := some 78) #[true, true, true, true, true, true, true, true, true, true, true, true, false, false, false] rfl rfl (by kernel_rfl) (by decide) (fun K hK => ?_)
        refine slice_step (n := 2) (by rfl) (N := 78) rfl (cs := #[.int .i64 t520, .int .i64 2]) (t := 3) ?hr ?_
        case hr => first | (go_simp; done) | (go_simp; rfl)
        intro g523 hg w524 hbox hb
        replace HS : Aside0 (Sep (fps []) w [b1 g34 a30 a31 a32 a33, b2 g37 0 0 0 0 0 0 0 0, b2 g194 t191 (wrap64 (a31 - 8)) (wrap64 ((wrap64 (a31 - 8)) + 1)) t360 t387 t371 t430 0, b4 g514 t387 t387 t371, b3 g523 t520 2] w524) := ⟨HS.out.box hg hbox hb⟩
        clear hg hbox hb
        refine hK.out _ _ (⟨blk_cellv (HS.out.at2) 4 rfl, blk_cellv (HS.out.at2) 5 rfl, blk_cellv (HS.out.at0) 3 rfl⟩) (fun hHeld => ?_)
        clear hK K
        refine norm_ (a' := ?_) ?_ ?_
        rotate_left
        · show Act.put _ (some 78) _ = _
          simp only [Act.put, List.setIfInBounds_toArray, List.set_cons_zero, List.set_cons_succ, i64_w, i32_w]
          rfl
        refine one_ (i := 12) (N := some 79) #[true, true, true, true, true, true, true, true, true, true, true, true, true, false, false] rfl rfl (by kernel_rfl) (by decide) (fun K hK => ?_)
        obtain ⟨t526, HA527, H⟩ := bind_some H
        refine goes_ Tryd.func122 (by kernel_rfl) rfl #[.slice (some ⟨g523, 0, none⟩) 2 2] (by rfl) rfl rfl (by (try simp only [List.map_toArray, List.map_cons, List.map_nil]); first | done | rfl) ?_
        refine (ratio_Add.calls _ [t520, 2] (some ⟨g523, 0, none⟩) 2 t526 _ ⟨Rd.lit (l := []) (xs := [t520, 2]) HS.out 4 rfl (by simp)⟩ ⟨HGl0.out.pass (l := []) HS.out⟩ ⟨Sep.start _⟩ HA527).mono ?_
        rintro e_ w528 ⟨rfl, hS⟩
        replace HS : Aside0 (Sep (fps []) w [b1 g34 a30 a31 a32 a33, b2 g37 0 0 0 0 0 0 0 0, b2 g194 t191 (wrap64 (a31 - 8)) (wrap64 ((wrap64 (a31 - 8)) + 1)) t360 t387 t371 t430 0, b4 g514 t387 t387 t371, b3 g523 t520 2] w528) := ⟨HS.out.call hS⟩
        clear hS
        refine ⟨_, rfl, ?_⟩
        refine hK.out _ _ (⟨blk_cellv (HS.out.at2) 4 rfl, blk_cellv (HS.out.at2) 5 rfl, blk_cellv (HS.out.at0) 3 rfl⟩) (fun hHeld => ?_)
        clear hK K
        refine norm_ (a' := ?_) ?_ ?_
        rotate_left
        · show Act.put _ (some 79) _ = _
          simp only [Act.put, List.setIfInBounds_toArray, List.set_cons_zero, List.set_cons_succ, i64_w, i32_w]
          rfl
        refine pure_ (i := 13) (N := some 80) (v := ?_) (a' := ?_) #[true, true, true, true, true, true, true, true, true, true, true, true, true, true, false] rfl rfl (by kernel_rfl) (fun _ _ _ h => h) (Or.inl ⟨by rfl, ?_⟩) ?_ ?_
        rotate_left
        · intro w'
          go_simp
          with_reducible rfl
        rotate_left
        · simp only [Act.put, List.setIfInBounds_toArray, List.set_cons_zero, List.set_cons_succ, i64_w, i32_w]
          rfl
        refine one_ (i := 14) (N := none) #[true, true, true, true, true, true, true, true, true, true, true, true, true, true, true] rfl rfl (by kernel_rfl) (by decide) (fun K hK => ?_)
        have hc530 := blk_cellv (v := .int .i64 0) (HS.out.at2) 7 rfl
        have hz531 := blk_fz (HS.out.at2) 7
        refine store_step (w1 := (World.setCell w528 ⟨g194, 7, none⟩ (.int .i64 t526))) (by rfl) rfl ?hr ?_
        case hr => first | (go_simp; done) | (go_simp; rfl)
        clear hc530 hz531
        intro w529 hst
        have hq0 : Sep (fps []) w [b1 g34 a30 a31 a32 a33, b2 g37 0 0 0 0 0 0 0 0, b2 g194 t191 (wrap64 (a31 - 8)) (wrap64 ((wrap64 (a31 - 8)) + 1)) t360 t387 t371 t430 t526, b4 g514 t387 t387 t371, b3 g523 t520 2] (World.setCell w528 ⟨g194, 7, none⟩ (.int .i64 t526)) := (HS.out).set1 (l1 := [b1 g34 a30 a31 a32 a33, b2 g37 0 0 0 0 0 0 0 0]) (l2 := [b4 g514 t387 t387 t371, b3 g523 t520 2]) 7 (.int .i64 t526)
        have HS_ : Aside0 (Sep (fps []) w [b1 g34 a30 a31 a32 a33, b2 g37 0 0 0 0 0 0 0 0, b2 g194 t191 (wrap64 (a31 - 8)) (wrap64 ((wrap64 (a31 - 8)) + 1)) t360 t387 t371 t430 t526, b4 g514 t387 t387 t371, b3 g523 t520 2] w529) := ⟨by rw [hst]; exact hq0⟩
        clear hq0
        clear HS hst
        have HS := HS_
        clear HS_
        refine hK.out _ _ (⟨blk_cellv (HS.out.at2) 4 rfl, blk_cellv (HS.out.at2) 5 rfl, blk_cellv (HS.out.at0) 3 rfl⟩) (fun hHeld => ?_)
        clear hK K
        refine done_ (by kernel_rfl) ?_
        replace HS : Aside0 (Sep (fps []) w [b2 g37 0 0 0 0 0 0 0 0, b2 g194 t191 (wrap64 (a31 - 8)) (wrap64 ((wrap64 (a31 - 8)) + 1)) t360 t387 t371 t430 t526] w529) := ⟨HS.out.sub (.cons _ (.cons_cons _ (.cons_cons _ (.cons _ (.cons _ .slnil)))))⟩
        have hc532 : w529.cell? ⟨g194, 0, none⟩ = some (.int .i64 t191) := blk_cellv (HS.out.at1) 0 rfl
        have hc533 : w529.cell? ⟨g194, 1, none⟩ = some (.int .i64 (wrap64 (a31 - 8))) := blk_cellv (HS.out.at1) 1 rfl
        have hc534 : w529.cell? ⟨g194, 2, none⟩ = some (.int .i64 (wrap64 ((wrap64 (a31 - 8)) + 1))) := blk_cellv (HS.out.at1) 2 rfl
        have hc535 : w529.cell? ⟨g194, 3, none⟩ = some (.int .i64 t360) := blk_cellv (HS.out.at1) 3 rfl
        have hc536 : w529.cell? ⟨g194, 4, none⟩ = some (.int .i64 t387) := blk_cellv (HS.out.at1) 4 rfl
        have hc537 : w529.cell? ⟨g194, 5, none⟩ = some (.int .i64 t371) := blk_cellv (HS.out.at1) 5 rfl
        have hc538 : w529.cell? ⟨g194, 6, none⟩ = some (.int .i64 t430) := blk_cellv (HS.out.at1) 6 rfl
        have hc539 : w529.cell? ⟨g194, 7, none⟩ = some (.int .i64 t526) := blk_cellv (HS.out.at1) 7 rfl
        have hc540 : w529.cell? ⟨g37, 0, none⟩ = some (.int .i64 0) := blk_cellv (HS.out.at0) 0 rfl
        have hz541 : w529.frozen? ⟨g37, 0, none⟩ = false := blk_fz (HS.out.at0) 0
        have hc542 : w529.cell? ⟨g37, 1, none⟩ = some (.int .i64 0) := blk_cellv (HS.out.at0) 1 rfl
        have hz543 : w529.frozen? ⟨g37, 1, none⟩ = false := blk_fz (HS.out.at0) 1
        have hc544 : w529.cell? ⟨g37, 2, none⟩ = some (.int .i64 0) := blk_cellv (HS.out.at0) 2 rfl
        have hz545 : w529.frozen? ⟨g37, 2, none⟩ = false := blk_fz (HS.out.at0) 2
        have hc546 : w529.cell? ⟨g37, 3, none⟩ = some (.int .i64 0) := blk_cellv (HS.out.at0) 3 rfl
        have hz547 : w529.frozen? ⟨g37, 3, none⟩ = false := blk_fz (HS.out.at0) 3
        have hc548 : w529.cell? ⟨g37, 4, none⟩ = some (.int .i64 0) := blk_cellv (HS.out.at0) 4 rfl
        have hz549 : w529.frozen? ⟨g37, 4, none⟩ = false := blk_fz (HS.out.at0) 4
        have hc550 : w529.cell? ⟨g37, 5, none⟩ = some (.int .i64 0) := blk_cellv (HS.out.at0) 5 rfl
        have hz551 : w529.frozen? ⟨g37, 5, none⟩ = false := blk_fz (HS.out.at0) 5
        have hc552 : w529.cell? ⟨g37, 6, none⟩ = some (.int .i64 0) := blk_cellv (HS.out.at0) 6 rfl
        have hz553 : w529.frozen? ⟨g37, 6, none⟩ = false := blk_fz (HS.out.at0) 6
        have hc554 : w529.cell? ⟨g37, 7, none⟩ = some (.int .i64 0) := blk_cellv (HS.out.at0) 7 rfl
        have hz555 : w529.frozen? ⟨g37, 7, none⟩ = false := blk_fz (HS.out.at0) 7
        go_wp2_with (first | ((with_reducible refine gate_store (t := 97) (p := 2) rfl ?_); refine store_event (w1 := (World.setCell (World.setCell (World.setCell (World.setCell (World.setCell (World.setCell (World.setCell (World.setCell w529 ⟨g37, 0, none⟩ (.int .i64 t191)) ⟨g37, 1, none⟩ (.int .i64 (wrap64 (a31 - 8)))) ⟨g37, 2, none⟩ (.int .i64 (wrap64 ((wrap64 (a31 - 8)) + 1)))) ⟨g37, 3, none⟩ (.int .i64 t360)) ⟨g37, 4, none⟩ (.int .i64 t387)) ⟨g37, 5, none⟩ (.int .i64 t371)) ⟨g37, 6, none⟩ (.int .i64 t430)) ⟨g37, 7, none⟩ (.int .i64 t526))) rfl (t := 97) (p := 2) rfl rfl ?hr ?_; (case hr => first | (go_simp; done) | (go_simp; rfl)); intro w556 hst; clear hc532 hc533 hc534 hc535 hc536 hc537 hc538 hc539 hc540 hz541 hc542 hz543 hc544 hz545 hc546 hz547 hc548 hz549 hc550 hz551 hc552 hz553 hc554 hz555; replace HS : Aside0 (Sep (fps []) w [b2 g37 t191 (wrap64 (a31 - 8)) (wrap64 ((wrap64 (a31 - 8)) + 1)) t360 t387 t371 t430 t526, b2 g194 t191 (wrap64 (a31 - 8)) (wrap64 ((wrap64 (a31 - 8)) + 1)) t360 t387 t371 t430 t526] w556) := ⟨by rw [hst]; exact HS.out.setAll (l1 := []) (l2 := [b2 g194 t191 (wrap64 (a31 - 8)) (wrap64 ((wrap64 (a31 - 8)) + 1)) t360 t387 t371 t430 t526]) [.int .i64 t191, .int .i64 (wrap64 (a31 - 8)), .int .i64 (wrap64 ((wrap64 (a31 - 8)) + 1)), .int .i64 t360, .int .i64 t387, .int .i64 t371, .int .i64 t430, .int .i64 t526] rfl⟩; clear hst; replace HS : Aside0 (Sep (fps []) w [b2 g37 t191 (wrap64 (a31 - 8)) (wrap64 ((wrap64 (a31 - 8)) + 1)) t360 t387 t371 t430 t526] w556) := ⟨HS.out.sub (.cons_cons _ (.cons _ .slnil))⟩))
        have hc557 : w556.cell? ⟨g37, 0, none⟩ = some (.int .i64 t191) := blk_cellv (HS.out.at0) 0 rfl
        have hc558 : w556.cell? ⟨g37, 1, none⟩ = some (.int .i64 (wrap64 (a31 - 8))) := blk_cellv (HS.out.at0) 1 rfl
        have hc559 : w556.cell? ⟨g37, 2, none⟩ = some (.int .i64 (wrap64 ((wrap64 (a31 - 8)) + 1))) := blk_cellv (HS.out.at0) 2 rfl
        have hc560 : w556.cell? ⟨g37, 3, none⟩ = some (.int .i64 t360) := blk_cellv (HS.out.at0) 3 rfl
        have hc561 : w556.cell? ⟨g37, 4, none⟩ = some (.int .i64 t387) := blk_cellv (HS.out.at0) 4 rfl
        have hc562 : w556.cell? ⟨g37, 5, none⟩ = some (.int .i64 t371) := blk_cellv (HS.out.at0) 5 rfl
        have hc563 : w556.cell? ⟨g37, 6, none⟩ = some (.int .i64 t430) := blk_cellv (HS.out.at0) 6 rfl
        have hc564 : w556.cell? ⟨g37, 7, none⟩ = some (.int .i64 t526) := blk_cellv (HS.out.at0) 7 rfl
        refine bodyPost_ret (v := .tuple #[.agg #[.int .i64 t191, .int .i64 (wrap64 (a31 - 8)), .int .i64 (wrap64 ((wrap64 (a31 - 8)) + 1)), .int .i64 t360, .int .i64 t387, .int .i64 t371, .int .i64 t430, .int .i64 t526], .int .i64 0]) (by simp [results, Tryd.results65, go_sem, hc557, hc558, hc559, hc560, hc561, hc562, hc563, hc564]) rfl ?_
        rw [← some_eq H]
        exact ⟨(by first | rfl | (simp [IntKind.wrap_u32]; done)), HS.out.sub (.cons _ .slnil)⟩
  · replace H := if_no c88 H
    have c88b0 : (t85 == 0) = false := beq_eq_false_iff_ne.mpr c88
    have c88b1 : (t85 != 0) = true := bne_iff_ne.mpr c88
    clear c88
    have hc565 : w87.cell? ⟨g37, 0, none⟩ = some (.int .i64 0) := blk_cellv (HS.out.at1) 0 rfl
    have hz566 : w87.frozen? ⟨g37, 0, none⟩ = false := blk_fz (HS.out.at1) 0
    have hc567 : w87.cell? ⟨g37, 1, none⟩ = some (.int .i64 0) := blk_cellv (HS.out.at1) 1 rfl
    have hz568 : w87.frozen? ⟨g37, 1, none⟩ = false := blk_fz (HS.out.at1) 1
    have hc569 : w87.cell? ⟨g37, 2, none⟩ = some (.int .i64 0) := blk_cellv (HS.out.at1) 2 rfl
    have hz570 : w87.frozen? ⟨g37, 2, none⟩ = false := blk_fz (HS.out.at1) 2
    have hc571 : w87.cell? ⟨g37, 3, none⟩ = some (.int .i64 0) := blk_cellv (HS.out.at1) 3 rfl
    have hz572 : w87.frozen? ⟨g37, 3, none⟩ = false := blk_fz (HS.out.at1) 3
    have hc573 : w87.cell? ⟨g37, 4, none⟩ = some (.int .i64 0) := blk_cellv (HS.out.at1) 4 rfl
    have hz574 : w87.frozen? ⟨g37, 4, none⟩ = false := blk_fz (HS.out.at1) 4
    have hc575 : w87.cell? ⟨g37, 5, none⟩ = some (.int .i64 0) := blk_cellv (HS.out.at1) 5 rfl
    have hz576 : w87.frozen? ⟨g37, 5, none⟩ = false := blk_fz (HS.out.at1) 5
    have hc577 : w87.cell? ⟨g37, 6, none⟩ = some (.int .i64 0) := blk_cellv (HS.out.at1) 6 rfl
    have hz578 : w87.frozen? ⟨g37, 6, none⟩ = false := blk_fz (HS.out.at1) 6
    have hc579 : w87.cell? ⟨g37, 7, none⟩ = some (.int .i64 0) := blk_cellv (HS.out.at1) 7 rfl
    have hz580 : w87.frozen? ⟨g37, 7, none⟩ = false := blk_fz (HS.out.at1) 7
    go_wp2_with (first | ((with_reducible refine gate_store (t := 97) (p := 2) rfl ?_); refine store_event (w1 := (World.setCell (World.setCell (World.setCell (World.setCell (World.setCell (World.setCell (World.setCell (World.setCell w87 ⟨g37, 0, none⟩ (.int .i64 0)) ⟨g37, 1, none⟩ (.int .i64 0)) ⟨g37, 2, none⟩ (.int .i64 0)) ⟨g37, 3, none⟩ (.int .i64 0)) ⟨g37, 4, none⟩ (.int .i64 0)) ⟨g37, 5, none⟩ (.int .i64 0)) ⟨g37, 6, none⟩ (.int .i64 0)) ⟨g37, 7, none⟩ (.int .i64 0))) rfl (t := 97) (p := 2) rfl rfl ?hr ?_; (case hr => first | (go_simp; done) | (go_simp; rfl)); intro w581 hst; clear hc565 hz566 hc567 hz568 hc569 hz570 hc571 hz572 hc573 hz574 hc575 hz576 hc577 hz578 hc579 hz580; replace HS : Aside0 (Sep (fps []) w [b1 g34 a30 a31 a32 a33, b2 g37 0 0 0 0 0 0 0 0] w581) := ⟨by rw [hst]; exact HS.out.setAll (l1 := [b1 g34 a30 a31 a32 a33]) (l2 := []) [.int .i64 0, .int .i64 0, .int .i64 0, .int .i64 0, .int .i64 0, .int .i64 0, .int .i64 0, .int .i64 0] rfl⟩; clear hst; replace HS : Aside0 (Sep (fps []) w [b2 g37 0 0 0 0 0 0 0 0] w581) := ⟨HS.out.sub (.cons _ (.cons_cons _ .slnil))⟩))
    have hc582 : w581.cell? ⟨g37, 0, none⟩ = some (.int .i64 0) := blk_cellv (HS.out.at0) 0 rfl
    have hc583 : w581.cell? ⟨g37, 1, none⟩ = some (.int .i64 0) := blk_cellv (HS.out.at0) 1 rfl
    have hc584 : w581.cell? ⟨g37, 2, none⟩ = some (.int .i64 0) := blk_cellv (HS.out.at0) 2 rfl
    have hc585 : w581.cell? ⟨g37, 3, none⟩ = some (.int .i64 0) := blk_cellv (HS.out.at0) 3 rfl
    have hc586 : w581.cell? ⟨g37, 4, none⟩ = some (.int .i64 0) := blk_cellv (HS.out.at0) 4 rfl
    have hc587 : w581.cell? ⟨g37, 5, none⟩ = some (.int .i64 0) := blk_cellv (HS.out.at0) 5 rfl
    have hc588 : w581.cell? ⟨g37, 6, none⟩ = some (.int .i64 0) := blk_cellv (HS.out.at0) 6 rfl
    have hc589 : w581.cell? ⟨g37, 7, none⟩ = some (.int .i64 0) := blk_cellv (HS.out.at0) 7 rfl
    refine bodyPost_ret (v := .tuple #[.agg #[.int .i64 0, .int .i64 0, .int .i64 0, .int .i64 0, .int .i64 0, .int .i64 0, .int .i64 0, .int .i64 0], .int .i64 t85]) (by simp [results, Tryd.results65, go_sem, hc582, hc583, hc584, hc585, hc586, hc587, hc588, hc589]) rfl ?_
    rw [← some_eq H]
    exact ⟨(by first | rfl | (simp [IntKind.wrap_u32]; done)), HS.out.sub (.cons _ .slnil)⟩

set_option maxHeartbeats 30000000 in
set_option maxRecDepth 100000 in
theorem store_New.calls (a615 : Int) (r : Unit ⊕ (List Int)) (w : World)  (HGl0 : Aside0 (Gl 0 #[.int .i64 0, .int .i64 0, .int .i64 0, .int .i64 0, .int .i64 0] (fps []) w)) (HS : Aside0 (Sep (fps []) w [] w)) (H : Aside0 (store_New.f a615 = some r)) :
    Calls Tryd.prog 66 #[.int .i64 a615] w fun e w' => Sum.elim (fun (r : Unit) => e = .returned (.tuple #[.pointer none, .int .i64 2]) ∧ Sep (fps []) w [] w') (fun (r : List Int) => ∃ (g651 : Nat), e = .returned (.tuple #[.pointer (some ⟨g651, 0, none⟩), .int .i64 0]) ∧ ∃ (A652 : Option Addr) (m653 : Nat) (n654 : Nat), Sep (fps []) w [b6 g651 A652 m653 n654 0, r5 A652 m653 n654 r] w') r := by
  unfold store_New.f at H
  go_enter Tryd.func66, Tryd.ntmps66
  by_cases c629 : a615 < 0
  · replace H := if_yes c629 H
    have c629b0 : decide (a615 < 0) = true := decide_eq_true c629
    clear c629
    go_wp2_with fail
    go_ret2
    rw [← some_eq H]
    exact ⟨(by first | rfl | (simp [IntKind.wrap_u32]; done)), HS.out⟩
  · replace H := if_no c629 H
    have c629b0 : decide (a615 < 0) = false := decide_eq_false c629
    clear c629
    by_cases c630 : a615 > 8388608
    · replace H := if_yes c630 H
      have c630b0 : decide (8388608 < a615) = true := decide_eq_true c630
      clear c630
      go_wp2_with fail
      go_ret2
      rw [← some_eq H]
      exact ⟨(by first | rfl | (simp [IntKind.wrap_u32]; done)), HS.out⟩
    · replace H := if_no c630 H
      have c630b0 : decide (8388608 < a615) = false := decide_eq_false c630
      clear c630
      obtain ⟨m631, HA632, H⟩ := bind_some H
      obtain ⟨hm633, hn634⟩ := mkLen_eq HA632
      have hm633H := Aside0.mk hm633
      clear hm633
      go_wp2_with (first | ((with_reducible refine gate_dst (N := 11) rfl ?_); refine make_event rfl (N := 11) rfl 69 33 (.tmp 10) (.tmp 10) rfl .i64 (.int .u32 0) 4 Tryd.underlying69 (by kernel_rfl) rfl (by decide) (Value.int .u32) 0 rfl m631 (by show Value.int _ _ = _; rw [hm633H.out]) (by show Value.int _ _ = _; rw [hm633H.out]) (by omega) HS.out ?_; intro g635 w636 HS1; replace HS : Aside0 (Sep (fps []) w [r5 (some ⟨g635, 0, none⟩) m631 m631 (List.replicate m631 (0 : Int))] w636) := ⟨HS1⟩; clear HS1) | ((with_reducible refine gate_dst (N := 13) rfl ?_); refine box_on ?hg (N := 13) ?hd (cs := #[.slice (some ⟨g635, 0, none⟩) m631 m631, .int .u64 0]) (t := 154) ?hr ?_; (case hd => rfl); (case hg => rfl); (case hr => first | (go_simp; done) | (go_simp; rfl)); intro g639 hg w640 hbox hb; replace HS : Aside0 (Sep (fps []) w [r5 (some ⟨g635, 0, none⟩) m631 m631 (List.replicate m631 (0 : Int)), b6 g639 (some ⟨g635, 0, none⟩) m631 m631 0] w640) := ⟨HS.out.box hg hbox hb⟩; clear hg hbox hb))
      go_ret2
      rw [← some_eq H]
      exact ⟨g639, (by first | rfl | (simp [IntKind.wrap_u32]; done)), (some ⟨g635, 0, none⟩), m631, m631, ((HS.out).front 1 (by simp)).keep (l := [b6 g639 (some ⟨g635, 0, none⟩) m631 m631 0, r5 (some ⟨g635, 0, none⟩) m631 m631 (List.replicate m631 (0 : Int))]) (rest := [])⟩

set_option maxHeartbeats 30000000 in
set_option maxRecDepth 100000 in
theorem ground_New.calls (k : Nat) (a19 : Int) (a20 : Int) (a21 : Int) (a22 : Int) (r : Unit ⊕ ((Int × Int × Int × Int × List Int) ⊕ Int)) (w : World)  (HGl0 : Aside0 (Gl 0 #[.int .i64 0, .int .i64 0, .int .i64 0, .int .i64 0, .int .i64 0] (fps []) w)) (HS : Aside0 (Sep (fps []) w [] w)) (H : Aside0 (ground_New.f k a19 a20 a21 a22 = some r)) :
    Calls Tryd.prog 15 #[.agg #[.int .i64 a19, .int .i64 a20, .int .i64 a21, .int .i64 a22]] w fun e w' => Sum.elim (fun (r : Unit) => e = .returned (.tuple #[.pointer none, .int .i64 2]) ∧ Sep (fps []) w [] w') (fun (r_ : (Int × Int × Int × Int × List Int) ⊕ Int) => Sum.elim (fun (r : Int × Int × Int × Int × List Int) => ∃ (g801 : Nat), e = .returned (.tuple #[.pointer (some ⟨g801, 0, none⟩), .int .i64 0]) ∧ ∃ (g802 : Nat) (A803 : Option Addr) (m804 : Nat) (n805 : Nat), Sep (fps []) w [b7 g801 g802 r.1 r.2.1 r.2.2.1 r.2.2.2.1, b6 g802 A803 m804 n805 0, r5 A803 m804 n805 r.2.2.2.2] w') (fun (r : Int) => e = .returned (.tuple #[.pointer none, .int .i64 r]) ∧ Sep (fps []) w [] w') r_) r := by
  unfold ground_New.f at H
  go_enter Tryd.func15, Tryd.ntmps15
  go_wp2_with (first | ((with_reducible refine gate_dst (N := 1) rfl ?_); refine box_on ?hg (N := 1) ?hd (cs := #[.int .i64 a19, .int .i64 a20, .int .i64 a21, .int .i64 a22]) (t := 30) ?hr ?_; (case hd => rfl); (case hg => rfl); (case hr => first | (go_simp; done) | (go_simp; rfl)); intro g737 hg w738 hbox hb; replace HS : Aside0 (Sep (fps []) w [b1 g737 a19 a20 a21 a22] w738) := ⟨HS.out.box hg hbox hb⟩; clear hg hbox hb; have hc740 : w738.cell? ⟨g737, 0, none⟩ = some (.int .i64 a19) := blk_cellv (HS.out.at0) 0 rfl; have hc741 : w738.cell? ⟨g737, 1, none⟩ = some (.int .i64 a20) := blk_cellv (HS.out.at0) 1 rfl; have hc742 : w738.cell? ⟨g737, 2, none⟩ = some (.int .i64 a21) := blk_cellv (HS.out.at0) 2 rfl; have hc743 : w738.cell? ⟨g737, 3, none⟩ = some (.int .i64 a22) := blk_cellv (HS.out.at0) 3 rfl))
  clear hc740 hc741 hc742 hc743
  obtain ⟨t744, HA745, H⟩ := bind_some H
  refine (plan_Of.calls _ a19 a20 a21 a22 t744 _ ⟨HGl0.out.pass (l := []) HS.out⟩ ⟨Sep.start _⟩ HA745).mono ?_
  rintro e_ w746 ⟨rfl, hS⟩
  replace HS : Aside0 (Sep (fps []) w [b1 g737 a19 a20 a21 a22] w746) := ⟨HS.out.call hS⟩
  clear hS
  by_cases c767 : t744.2.2.2.2.2.2.2.2 = 0
  · replace H := if_yes c767 H
    have c767b0 : (t744.2.2.2.2.2.2.2.2 == 0) = true := beq_iff_eq.mpr c767
    have c767b1 : (t744.2.2.2.2.2.2.2.2 != 0) = false := bne_eq_false_iff_eq.mpr c767
    clear c767
    go_wp2_with (first | ((with_reducible refine gate_dst (N := 4) rfl ?_); refine box_on ?hg (N := 4) ?hd (cs := #[.int .i64 0, .int .i64 0, .int .i64 0, .int .i64 0, .int .i64 0, .int .i64 0, .int .i64 0, .int .i64 0]) (t := 97) ?hr ?_; (case hd => rfl); (case hg => rfl); (case hr => first | (go_simp; done) | (go_simp; rfl)); intro g747 hg w748 hbox hb; replace HS : Aside0 (Sep (fps []) w [b1 g737 a19 a20 a21 a22, b2 g747 0 0 0 0 0 0 0 0] w748) := ⟨HS.out.box hg hbox hb⟩; clear hg hbox hb; have hc750 : w748.cell? ⟨g747, 0, none⟩ = some (.int .i64 0) := blk_cellv (HS.out.at1) 0 rfl; have hz751 : w748.frozen? ⟨g747, 0, none⟩ = false := blk_fz (HS.out.at1) 0; have hc752 : w748.cell? ⟨g747, 1, none⟩ = some (.int .i64 0) := blk_cellv (HS.out.at1) 1 rfl; have hz753 : w748.frozen? ⟨g747, 1, none⟩ = false := blk_fz (HS.out.at1) 1; have hc754 : w748.cell? ⟨g747, 2, none⟩ = some (.int .i64 0) := blk_cellv (HS.out.at1) 2 rfl; have hz755 : w748.frozen? ⟨g747, 2, none⟩ = false := blk_fz (HS.out.at1) 2; have hc756 : w748.cell? ⟨g747, 3, none⟩ = some (.int .i64 0) := blk_cellv (HS.out.at1) 3 rfl; have hz757 : w748.frozen? ⟨g747, 3, none⟩ = false := blk_fz (HS.out.at1) 3; have hc758 : w748.cell? ⟨g747, 4, none⟩ = some (.int .i64 0) := blk_cellv (HS.out.at1) 4 rfl; have hz759 : w748.frozen? ⟨g747, 4, none⟩ = false := blk_fz (HS.out.at1) 4; have hc760 : w748.cell? ⟨g747, 5, none⟩ = some (.int .i64 0) := blk_cellv (HS.out.at1) 5 rfl; have hz761 : w748.frozen? ⟨g747, 5, none⟩ = false := blk_fz (HS.out.at1) 5; have hc762 : w748.cell? ⟨g747, 6, none⟩ = some (.int .i64 0) := blk_cellv (HS.out.at1) 6 rfl; have hz763 : w748.frozen? ⟨g747, 6, none⟩ = false := blk_fz (HS.out.at1) 6; have hc764 : w748.cell? ⟨g747, 7, none⟩ = some (.int .i64 0) := blk_cellv (HS.out.at1) 7 rfl; have hz765 : w748.frozen? ⟨g747, 7, none⟩ = false := blk_fz (HS.out.at1) 7) | ((with_reducible refine gate_store (t := 97) (p := 4) rfl ?_); refine store_event (w1 := (World.setCell (World.setCell (World.setCell (World.setCell (World.setCell (World.setCell (World.setCell (World.setCell w748 ⟨g747, 0, none⟩ (.int .i64 t744.1)) ⟨g747, 1, none⟩ (.int .i64 t744.2.1)) ⟨g747, 2, none⟩ (.int .i64 t744.2.2.1)) ⟨g747, 3, none⟩ (.int .i64 t744.2.2.2.1)) ⟨g747, 4, none⟩ (.int .i64 t744.2.2.2.2.1)) ⟨g747, 5, none⟩ (.int .i64 t744.2.2.2.2.2.1)) ⟨g747, 6, none⟩ (.int .i64 t744.2.2.2.2.2.2.1)) ⟨g747, 7, none⟩ (.int .i64 t744.2.2.2.2.2.2.2.1))) rfl (t := 97) (p := 4) rfl rfl ?hr ?_; (case hr => first | (go_simp; done) | (go_simp; rfl)); intro w766 hst; clear hc750 hz751 hc752 hz753 hc754 hz755 hc756 hz757 hc758 hz759 hc760 hz761 hc762 hz763 hc764 hz765; replace HS : Aside0 (Sep (fps []) w [b1 g737 a19 a20 a21 a22, b2 g747 t744.1 t744.2.1 t744.2.2.1 t744.2.2.2.1 t744.2.2.2.2.1 t744.2.2.2.2.2.1 t744.2.2.2.2.2.2.1 t744.2.2.2.2.2.2.2.1] w766) := ⟨by rw [hst]; exact HS.out.setAll (l1 := [b1 g737 a19 a20 a21 a22]) (l2 := []) [.int .i64 t744.1, .int .i64 t744.2.1, .int .i64 t744.2.2.1, .int .i64 t744.2.2.2.1, .int .i64 t744.2.2.2.2.1, .int .i64 t744.2.2.2.2.2.1, .int .i64 t744.2.2.2.2.2.2.1, .int .i64 t744.2.2.2.2.2.2.2.1] rfl⟩; clear hst; have hc768 : w766.cell? ⟨g747, 0, none⟩ = some (.int .i64 t744.1) := blk_cellv (HS.out.at1) 0 rfl))
    clear hc768
    obtain ⟨t769, HA770, H⟩ := bind_some H
    rcases t769 with t771 | t772
    · have H := sum_l H
      refine (store_New.calls t744.1 (.inl t771) _ ⟨HGl0.out.pass (l := []) HS.out⟩ ⟨Sep.start _⟩ HA770).mono ?_
      rintro e_ w773 ⟨rfl, hS⟩
      replace HS : Aside0 (Sep (fps []) w [b1 g737 a19 a20 a21 a22, b2 g747 t744.1 t744.2.1 t744.2.2.1 t744.2.2.2.1 t744.2.2.2.2.1 t744.2.2.2.2.2.1 t744.2.2.2.2.2.2.1 t744.2.2.2.2.2.2.2.1] w773) := ⟨HS.out.call hS⟩
      clear hS
      replace HS : Aside0 (Sep (fps []) w [b1 g737 a19 a20 a21 a22] w773) := ⟨HS.out.sub (.cons_cons _ (.cons _ .slnil))⟩
      replace HS : Aside0 (Sep (fps []) w [] w773) := ⟨HS.out.sub (.cons _ .slnil)⟩
      go_wp2_with fail
      go_ret2
      rw [← some_eq H]
      exact ⟨(by first | rfl | (simp [IntKind.wrap_u32]; done)), HS.out⟩
    · have H := sum_r H
      refine (store_New.calls t744.1 (.inr t772) _ ⟨HGl0.out.pass (l := []) HS.out⟩ ⟨Sep.start _⟩ HA770).mono ?_
      rintro e_ w774 ⟨g777, rfl, A778, m779, n780, hS⟩
      replace HS : Aside0 (Sep (fps []) w [b6 g777 A778 m779 n780 0, r5 A778 m779 n780 t772, b1 g737 a19 a20 a21 a22, b2 g747 t744.1 t744.2.1 t744.2.2.1 t744.2.2.2.1 t744.2.2.2.2.1 t744.2.2.2.2.2.1 t744.2.2.2.2.2.2.1 t744.2.2.2.2.2.2.2.1] w774) := ⟨HS.out.call hS⟩
      clear hS
      obtain rfl := (row_len (HS.out.at1)).symm
      replace HS : Aside0 (Sep (fps []) w [b6 g777 A778 t772.length n780 0, r5 A778 t772.length n780 t772, b1 g737 a19 a20 a21 a22] w774) := ⟨HS.out.sub (.cons_cons _ (.cons_cons _ (.cons_cons _ (.cons _ .slnil))))⟩
      have hc782 : w774.cell? ⟨g737, 0, none⟩ = some (.int .i64 a19) := blk_cellv (HS.out.at2) 0 rfl
      have hc783 : w774.cell? ⟨g737, 1, none⟩ = some (.int .i64 a20) := blk_cellv (HS.out.at2) 1 rfl
      have hc784 : w774.cell? ⟨g737, 2, none⟩ = some (.int .i64 a21) := blk_cellv (HS.out.at2) 2 rfl
      have hc785 : w774.cell? ⟨g737, 3, none⟩ = some (.int .i64 a22) := blk_cellv (HS.out.at2) 3 rfl
      go_wp2_with (first | ((with_reducible refine gate_dst (N := 28) rfl ?_); refine box_on ?hg (N := 28) ?hd (cs := #[.pointer (some ⟨g777, 0, none⟩), .int .i64 a19, .int .i64 a20, .int .i64 a21, .int .i64 a22]) (t := 106) ?hr ?_; (case hd => rfl); (case hg => rfl); (case hr => first | (go_simp; done) | (go_simp; rfl)); intro g786 hg w787 hbox hb; clear hc782 hc783 hc784 hc785; replace HS : Aside0 (Sep (fps []) w [b6 g777 A778 t772.length n780 0, r5 A778 t772.length n780 t772, b1 g737 a19 a20 a21 a22, b7 g786 g777 a19 a20 a21 a22] w787) := ⟨HS.out.box hg hbox hb⟩; clear hg hbox hb; replace HS : Aside0 (Sep (fps []) w [b6 g777 A778 t772.length n780 0, r5 A778 t772.length n780 t772, b7 g786 g777 a19 a20 a21 a22] w787) := ⟨HS.out.sub (.cons_cons _ (.cons_cons _ (.cons _ (.cons_cons _ .slnil))))⟩))
      go_ret2
      rw [← some_eq H]
      exact ⟨g786, (by first | rfl | (simp [IntKind.wrap_u32]; done)), g777, A778, t772.length, n780, ((((HS.out).front 1 (by simp)).front 1 (by simp)).front 2 (by simp)).keep (l := [b7 g786 g777 a19 a20 a21 a22, b6 g777 A778 t772.length n780 0, r5 A778 t772.length n780 t772]) (rest := [])⟩
  · replace H := if_no c767 H
    have c767b0 : (t744.2.2.2.2.2.2.2.2 == 0) = false := beq_eq_false_iff_ne.mpr c767
    have c767b1 : (t744.2.2.2.2.2.2.2.2 != 0) = true := bne_iff_ne.mpr c767
    clear c767
    go_wp2_with (first | ((with_reducible refine gate_dst (N := 4) rfl ?_); refine box_on ?hg (N := 4) ?hd (cs := #[.int .i64 0, .int .i64 0, .int .i64 0, .int .i64 0, .int .i64 0, .int .i64 0, .int .i64 0, .int .i64 0]) (t := 97) ?hr ?_; (case hd => rfl); (case hg => rfl); (case hr => first | (go_simp; done) | (go_simp; rfl)); intro g747 hg w748 hbox hb; replace HS : Aside0 (Sep (fps []) w [b1 g737 a19 a20 a21 a22, b2 g747 0 0 0 0 0 0 0 0] w748) := ⟨HS.out.box hg hbox hb⟩; clear hg hbox hb; have hc750 : w748.cell? ⟨g747, 0, none⟩ = some (.int .i64 0) := blk_cellv (HS.out.at1) 0 rfl; have hz751 : w748.frozen? ⟨g747, 0, none⟩ = false := blk_fz (HS.out.at1) 0; have hc752 : w748.cell? ⟨g747, 1, none⟩ = some (.int .i64 0) := blk_cellv (HS.out.at1) 1 rfl; have hz753 : w748.frozen? ⟨g747, 1, none⟩ = false := blk_fz (HS.out.at1) 1; have hc754 : w748.cell? ⟨g747, 2, none⟩ = some (.int .i64 0) := blk_cellv (HS.out.at1) 2 rfl; have hz755 : w748.frozen? ⟨g747, 2, none⟩ = false := blk_fz (HS.out.at1) 2; have hc756 : w748.cell? ⟨g747, 3, none⟩ = some (.int .i64 0) := blk_cellv (HS.out.at1) 3 rfl; have hz757 : w748.frozen? ⟨g747, 3, none⟩ = false := blk_fz (HS.out.at1) 3; have hc758 : w748.cell? ⟨g747, 4, none⟩ = some (.int .i64 0) := blk_cellv (HS.out.at1) 4 rfl; have hz759 : w748.frozen? ⟨g747, 4, none⟩ = false := blk_fz (HS.out.at1) 4; have hc760 : w748.cell? ⟨g747, 5, none⟩ = some (.int .i64 0) := blk_cellv (HS.out.at1) 5 rfl; have hz761 : w748.frozen? ⟨g747, 5, none⟩ = false := blk_fz (HS.out.at1) 5; have hc762 : w748.cell? ⟨g747, 6, none⟩ = some (.int .i64 0) := blk_cellv (HS.out.at1) 6 rfl; have hz763 : w748.frozen? ⟨g747, 6, none⟩ = false := blk_fz (HS.out.at1) 6; have hc764 : w748.cell? ⟨g747, 7, none⟩ = some (.int .i64 0) := blk_cellv (HS.out.at1) 7 rfl; have hz765 : w748.frozen? ⟨g747, 7, none⟩ = false := blk_fz (HS.out.at1) 7) | ((with_reducible refine gate_store (t := 97) (p := 4) rfl ?_); refine store_event (w1 := (World.setCell (World.setCell (World.setCell (World.setCell (World.setCell (World.setCell (World.setCell (World.setCell w748 ⟨g747, 0, none⟩ (.int .i64 t744.1)) ⟨g747, 1, none⟩ (.int .i64 t744.2.1)) ⟨g747, 2, none⟩ (.int .i64 t744.2.2.1)) ⟨g747, 3, none⟩ (.int .i64 t744.2.2.2.1)) ⟨g747, 4, none⟩ (.int .i64 t744.2.2.2.2.1)) ⟨g747, 5, none⟩ (.int .i64 t744.2.2.2.2.2.1)) ⟨g747, 6, none⟩ (.int .i64 t744.2.2.2.2.2.2.1)) ⟨g747, 7, none⟩ (.int .i64 t744.2.2.2.2.2.2.2.1))) rfl (t := 97) (p := 4) rfl rfl ?hr ?_; (case hr => first | (go_simp; done) | (go_simp; rfl)); intro w766 hst; clear hc750 hz751 hc752 hz753 hc754 hz755 hc756 hz757 hc758 hz759 hc760 hz761 hc762 hz763 hc764 hz765; replace HS : Aside0 (Sep (fps []) w [b1 g737 a19 a20 a21 a22, b2 g747 t744.1 t744.2.1 t744.2.2.1 t744.2.2.2.1 t744.2.2.2.2.1 t744.2.2.2.2.2.1 t744.2.2.2.2.2.2.1 t744.2.2.2.2.2.2.2.1] w766) := ⟨by rw [hst]; exact HS.out.setAll (l1 := [b1 g737 a19 a20 a21 a22]) (l2 := []) [.int .i64 t744.1, .int .i64 t744.2.1, .int .i64 t744.2.2.1, .int .i64 t744.2.2.2.1, .int .i64 t744.2.2.2.2.1, .int .i64 t744.2.2.2.2.2.1, .int .i64 t744.2.2.2.2.2.2.1, .int .i64 t744.2.2.2.2.2.2.2.1] rfl⟩; clear hst; replace HS : Aside0 (Sep (fps []) w [] w766) := ⟨HS.out.sub (.cons _ (.cons _ .slnil))⟩))
    go_ret2
    rw [← some_eq H]
    exact ⟨(by first | rfl | (simp [IntKind.wrap_u32]; done)), HS.out⟩

set_option maxHeartbeats 30000000 in
set_option maxRecDepth 100000 in
theorem chain_of.calls (l859 : List Int) (a864 : Int) (a865 : Int) (a866 : Int) (a867 : Int) (a868 : Int) (a869 : Int) (g855 : Nat) (g857 : Nat) (A860 : Option Addr) (m861 : Nat) (n862 : Nat) (r : Int × Int × Int × Bool) (w : World)  (HGl0 : Aside0 (Gl 0 #[.int .i64 0, .int .i64 0, .int .i64 0, .int .i64 0, .int .i64 0] (fps [b7 g855 g857 a865 a866 a867 a868, b6 g857 A860 m861 n862 a864, r5 A860 m861 n862 l859]) w)) (HS : Aside0 (Sep (fps [b7 g855 g857 a865 a866 a867 a868, b6 g857 A860 m861 n862 a864, r5 A860 m861 n862 l859]) w [b7 g855 g857 a865 a866 a867 a868, b6 g857 A860 m861 n862 a864, r5 A860 m861 n862 l859] w)) (H : Aside0 (chain_of.f l859 a864 a865 a866 a867 a868 a869 = some r)) :
    Calls Tryd.prog 139 #[.pointer (some ⟨g855, 0, none⟩), .int .i64 a869] w fun e w' => e = .returned (.tuple #[.agg #[.int .i64 r.1, .int .i64 r.2.1, .int .i64 r.2.2.1], .bool r.2.2.2]) ∧ Sep (fps [b7 g855 g857 a865 a866 a867 a868, b6 g857 A860 m861 n862 a864, r5 A860 m861 n862 l859]) w [b7 g855 g857 a865 a866 a867 a868, b6 g857 A860 m861 n862 a864, r5 A860 m861 n862 l859] w' := by
  generalize (fps [b7 g855 g857 a865 a866 a867 a868, b6 g857 A860 m861 n862 a864, r5 A860 m861 n862 l859]) = FF at HS HGl0 ⊢
  obtain rfl := (row_len (HS.out.at2)).symm
  unfold chain_of.f at H
  go_enter Tryd.func139, Tryd.ntmps139
  by_cases c873 : a869 < 0
  · replace H := if_yes c873 H
    have c873b0 : decide (a869 < 0) = true := decide_eq_true c873
    clear c873
    go_wp2_with (first | ((with_reducible refine gate_dst (N := 4) rfl ?_); refine box_on ?hg (N := 4) ?hd (cs := #[.int .i64 0, .int .i64 0, .int .i64 0]) (t := 166) ?hr ?_; (case hd => rfl); (case hg => rfl); (case hr => first | (go_simp; done) | (go_simp; rfl)); intro g870 hg w871 hbox hb; replace HS : Aside0 (Sep FF w [b7 g855 g857 a865 a866 a867 a868, b6 g857 A860 l859.length n862 a864, r5 A860 l859.length n862 l859, b8 g870 0 0 0] w871) := ⟨HS.out.box hg hbox hb⟩; clear hg hbox hb; have hc874 : w871.cell? ⟨g870, 0, none⟩ = some (.int .i64 0) := blk_cellv (HS.out.at3) 0 rfl; have hz875 : w871.frozen? ⟨g870, 0, none⟩ = false := blk_fz (HS.out.at3) 0; have hc876 : w871.cell? ⟨g870, 1, none⟩ = some (.int .i64 0) := blk_cellv (HS.out.at3) 1 rfl; have hz877 : w871.frozen? ⟨g870, 1, none⟩ = false := blk_fz (HS.out.at3) 1; have hc878 : w871.cell? ⟨g870, 2, none⟩ = some (.int .i64 0) := blk_cellv (HS.out.at3) 2 rfl; have hz879 : w871.frozen? ⟨g870, 2, none⟩ = false := blk_fz (HS.out.at3) 2) | ((with_reducible refine gate_store (t := 166) (p := 4) rfl ?_); refine store_event (w1 := (World.setCell (World.setCell (World.setCell w871 ⟨g870, 0, none⟩ (.int .i64 0)) ⟨g870, 1, none⟩ (.int .i64 0)) ⟨g870, 2, none⟩ (.int .i64 0))) rfl (t := 166) (p := 4) rfl rfl ?hr ?_; (case hr => first | (go_simp; done) | (go_simp; rfl)); intro w880 hst; clear hc874 hz875 hc876 hz877 hc878 hz879; replace HS : Aside0 (Sep FF w [b7 g855 g857 a865 a866 a867 a868, b6 g857 A860 l859.length n862 a864, r5 A860 l859.length n862 l859, b8 g870 0 0 0] w880) := ⟨by rw [hst]; exact HS.out.setAll (l1 := [b7 g855 g857 a865 a866 a867 a868, b6 g857 A860 l859.length n862 a864, r5 A860 l859.length n862 l859]) (l2 := []) [.int .i64 0, .int .i64 0, .int .i64 0] rfl⟩; clear hst))
    have hc881 : w880.cell? ⟨g870, 0, none⟩ = some (.int .i64 0) := blk_cellv (HS.out.at3) 0 rfl
    have hc882 : w880.cell? ⟨g870, 1, none⟩ = some (.int .i64 0) := blk_cellv (HS.out.at3) 1 rfl
    have hc883 : w880.cell? ⟨g870, 2, none⟩ = some (.int .i64 0) := blk_cellv (HS.out.at3) 2 rfl
    refine bodyPost_ret (v := .tuple #[.agg #[.int .i64 0, .int .i64 0, .int .i64 0], .bool false]) (by simp [results, Tryd.results139, go_sem, hc881, hc882, hc883]) rfl ?_
    rw [← some_eq H]
    exact ⟨(by first | rfl | (simp [IntKind.wrap_u32]; done)), HS.out.sub (.cons_cons _ (.cons_cons _ (.cons_cons _ (.cons _ .slnil))))⟩
  · replace H := if_no c873 H
    have c873b0 : decide (a869 < 0) = false := decide_eq_false c873
    clear c873
    by_cases c884 : a869 > 1
    · replace H := if_yes c884 H
      have c884b0 : decide (1 < a869) = true := decide_eq_true c884
      clear c884
      go_wp2_with (first | ((with_reducible refine gate_dst (N := 4) rfl ?_); refine box_on ?hg (N := 4) ?hd (cs := #[.int .i64 0, .int .i64 0, .int .i64 0]) (t := 166) ?hr ?_; (case hd => rfl); (case hg => rfl); (case hr => first | (go_simp; done) | (go_simp; rfl)); intro g870 hg w871 hbox hb; replace HS : Aside0 (Sep FF w [b7 g855 g857 a865 a866 a867 a868, b6 g857 A860 l859.length n862 a864, r5 A860 l859.length n862 l859, b8 g870 0 0 0] w871) := ⟨HS.out.box hg hbox hb⟩; clear hg hbox hb; have hc885 : w871.cell? ⟨g870, 0, none⟩ = some (.int .i64 0) := blk_cellv (HS.out.at3) 0 rfl; have hz886 : w871.frozen? ⟨g870, 0, none⟩ = false := blk_fz (HS.out.at3) 0; have hc887 : w871.cell? ⟨g870, 1, none⟩ = some (.int .i64 0) := blk_cellv (HS.out.at3) 1 rfl; have hz888 : w871.frozen? ⟨g870, 1, none⟩ = false := blk_fz (HS.out.at3) 1; have hc889 : w871.cell? ⟨g870, 2, none⟩ = some (.int .i64 0) := blk_cellv (HS.out.at3) 2 rfl; have hz890 : w871.frozen? ⟨g870, 2, none⟩ = false := blk_fz (HS.out.at3) 2) | ((with_reducible refine gate_store (t := 166) (p := 4) rfl ?_); refine store_event (w1 := (World.setCell (World.setCell (World.setCell w871 ⟨g870, 0, none⟩ (.int .i64 0)) ⟨g870, 1, none⟩ (.int .i64 0)) ⟨g870, 2, none⟩ (.int .i64 0))) rfl (t := 166) (p := 4) rfl rfl ?hr ?_; (case hr => first | (go_simp; done) | (go_simp; rfl)); intro w891 hst; clear hc885 hz886 hc887 hz888 hc889 hz890; replace HS : Aside0 (Sep FF w [b7 g855 g857 a865 a866 a867 a868, b6 g857 A860 l859.length n862 a864, r5 A860 l859.length n862 l859, b8 g870 0 0 0] w891) := ⟨by rw [hst]; exact HS.out.setAll (l1 := [b7 g855 g857 a865 a866 a867 a868, b6 g857 A860 l859.length n862 a864, r5 A860 l859.length n862 l859]) (l2 := []) [.int .i64 0, .int .i64 0, .int .i64 0] rfl⟩; clear hst))
      have hc892 : w891.cell? ⟨g870, 0, none⟩ = some (.int .i64 0) := blk_cellv (HS.out.at3) 0 rfl
      have hc893 : w891.cell? ⟨g870, 1, none⟩ = some (.int .i64 0) := blk_cellv (HS.out.at3) 1 rfl
      have hc894 : w891.cell? ⟨g870, 2, none⟩ = some (.int .i64 0) := blk_cellv (HS.out.at3) 2 rfl
      refine bodyPost_ret (v := .tuple #[.agg #[.int .i64 0, .int .i64 0, .int .i64 0], .bool false]) (by simp [results, Tryd.results139, go_sem, hc892, hc893, hc894]) rfl ?_
      rw [← some_eq H]
      exact ⟨(by first | rfl | (simp [IntKind.wrap_u32]; done)), HS.out.sub (.cons_cons _ (.cons_cons _ (.cons_cons _ (.cons _ .slnil))))⟩
    · replace H := if_no c884 H
      have c884b0 : decide (1 < a869) = false := decide_eq_false c884
      clear c884
      go_wp2_with (first | ((with_reducible refine gate_dst (N := 4) rfl ?_); refine box_on ?hg (N := 4) ?hd (cs := #[.int .i64 0, .int .i64 0, .int .i64 0]) (t := 166) ?hr ?_; (case hd => rfl); (case hg => rfl); (case hr => first | (go_simp; done) | (go_simp; rfl)); intro g870 hg w871 hbox hb; replace HS : Aside0 (Sep FF w [b7 g855 g857 a865 a866 a867 a868, b6 g857 A860 l859.length n862 a864, r5 A860 l859.length n862 l859, b8 g870 0 0 0] w871) := ⟨HS.out.box hg hbox hb⟩; clear hg hbox hb; have hc895 : w871.cell? ⟨g870, 0, none⟩ = some (.int .i64 0) := blk_cellv (HS.out.at3) 0 rfl; have hz896 : w871.frozen? ⟨g870, 0, none⟩ = false := blk_fz (HS.out.at3) 0; have hc897 : w871.cell? ⟨g870, 1, none⟩ = some (.int .i64 0) := blk_cellv (HS.out.at3) 1 rfl; have hz898 : w871.frozen? ⟨g870, 1, none⟩ = false := blk_fz (HS.out.at3) 1; have hc899 : w871.cell? ⟨g870, 2, none⟩ = some (.int .i64 0) := blk_cellv (HS.out.at3) 2 rfl; have hz900 : w871.frozen? ⟨g870, 2, none⟩ = false := blk_fz (HS.out.at3) 2) | ((with_reducible refine gate_store (t := 166) (p := 4) rfl ?_); refine store_event (w1 := (World.setCell (World.setCell (World.setCell w871 ⟨g870, 0, none⟩ (.int .i64 (wrap64 (3 * a869)))) ⟨g870, 1, none⟩ (.int .i64 (wrap64 ((wrap64 (3 * a869)) + 1)))) ⟨g870, 2, none⟩ (.int .i64 (wrap64 ((wrap64 (3 * a869)) + 2))))) rfl (t := 166) (p := 4) rfl rfl ?hr ?_; (case hr => first | (go_simp; done) | (go_simp; rfl)); intro w901 hst; clear hc895 hz896 hc897 hz898 hc899 hz900; replace HS : Aside0 (Sep FF w [b7 g855 g857 a865 a866 a867 a868, b6 g857 A860 l859.length n862 a864, r5 A860 l859.length n862 l859, b8 g870 (wrap64 (3 * a869)) (wrap64 ((wrap64 (3 * a869)) + 1)) (wrap64 ((wrap64 (3 * a869)) + 2))] w901) := ⟨by rw [hst]; exact HS.out.setAll (l1 := [b7 g855 g857 a865 a866 a867 a868, b6 g857 A860 l859.length n862 a864, r5 A860 l859.length n862 l859]) (l2 := []) [.int .i64 (wrap64 (3 * a869)), .int .i64 (wrap64 ((wrap64 (3 * a869)) + 1)), .int .i64 (wrap64 ((wrap64 (3 * a869)) + 2))] rfl⟩; clear hst))
      have hc902 : w901.cell? ⟨g870, 0, none⟩ = some (.int .i64 (wrap64 (3 * a869))) := blk_cellv (HS.out.at3) 0 rfl
      have hc903 : w901.cell? ⟨g870, 1, none⟩ = some (.int .i64 (wrap64 ((wrap64 (3 * a869)) + 1))) := blk_cellv (HS.out.at3) 1 rfl
      have hc904 : w901.cell? ⟨g870, 2, none⟩ = some (.int .i64 (wrap64 ((wrap64 (3 * a869)) + 2))) := blk_cellv (HS.out.at3) 2 rfl
      refine bodyPost_ret (v := .tuple #[.agg #[.int .i64 (wrap64 (3 * a869)), .int .i64 (wrap64 ((wrap64 (3 * a869)) + 1)), .int .i64 (wrap64 ((wrap64 (3 * a869)) + 2))], .bool true]) (by simp [results, Tryd.results139, go_sem, hc902, hc903, hc904]) rfl ?_
      rw [← some_eq H]
      exact ⟨(by first | rfl | (simp [IntKind.wrap_u32]; done)), HS.out.sub (.cons_cons _ (.cons_cons _ (.cons_cons _ (.cons _ .slnil))))⟩

set_option maxHeartbeats 30000000 in
set_option maxRecDepth 100000 in
theorem ground_Ground_all.calls (l941 : List Int) (a946 : Int) (a947 : Int) (a948 : Int) (a949 : Int) (a950 : Int) (g937 : Nat) (g939 : Nat) (A942 : Option Addr) (m943 : Nat) (n944 : Nat) (r : Unit) (w : World)  (HGl0 : Aside0 (Gl 0 #[.int .i64 0, .int .i64 0, .int .i64 0, .int .i64 0, .int .i64 0] (fps [b7 g937 g939 a947 a948 a949 a950, b6 g939 A942 m943 n944 a946, r5 A942 m943 n944 l941]) w)) (HS : Aside0 (Sep (fps [b7 g937 g939 a947 a948 a949 a950, b6 g939 A942 m943 n944 a946, r5 A942 m943 n944 l941]) w [b7 g937 g939 a947 a948 a949 a950, b6 g939 A942 m943 n944 a946, r5 A942 m943 n944 l941] w)) (H : Aside0 (ground_Ground_all.f l941 a946 a947 a948 a949 a950 = some r)) :
    Calls Tryd.prog 70 #[.pointer (some ⟨g937, 0, none⟩)] w fun e w' => e = .returned (.pointer (some ⟨g939, 0, none⟩)) ∧ Sep (fps [b7 g937 g939 a947 a948 a949 a950, b6 g939 A942 m943 n944 a946, r5 A942 m943 n944 l941]) w [b7 g937 g939 a947 a948 a949 a950, b6 g939 A942 m943 n944 a946, r5 A942 m943 n944 l941] w' := by
  generalize (fps [b7 g937 g939 a947 a948 a949 a950, b6 g939 A942 m943 n944 a946, r5 A942 m943 n944 l941]) = FF at HS HGl0 ⊢
  obtain rfl := (row_len (HS.out.at2)).symm
  unfold ground_Ground_all.f at H
  go_enter Tryd.func70, Tryd.ntmps70
  have hc951 : w.cell? ⟨g937, 0, none⟩ = some (.pointer (some ⟨g939, 0, none⟩)) := blk_cellv (HS.out.at0) 0 rfl
  go_wp2_with fail
  clear hc951
  go_ret
  clear H
  exact ⟨(by first | rfl | (simp [IntKind.wrap_u32]; done)), HS.out⟩

set_option maxHeartbeats 30000000 in
set_option maxRecDepth 100000 in
theorem ground_within.calls (a956 : Int) (a957 : Int) (a958 : Int) (r : Int) (w : World)  (HGl0 : Aside0 (Gl 0 #[.int .i64 0, .int .i64 0, .int .i64 0, .int .i64 0, .int .i64 0] (fps []) w)) (HS : Aside0 (Sep (fps []) w [] w)) (H : Aside0 (ground_within.f a956 a957 a958 = some r)) :
    Calls Tryd.prog 129 #[.int .i64 a956, .int .i64 a957, .int .i64 a958] w fun e w' => e = .returned (.int .i64 r) ∧ Sep (fps []) w [] w' := by
  unfold ground_within.f at H
  go_enter Tryd.func129, Tryd.ntmps129
  by_cases c959 : a956 < 0
  · replace H := if_yes c959 H
    have c959b0 : decide (a956 < 0) = true := decide_eq_true c959
    clear c959
    go_wp2_with fail
    go_ret
    rw [← some_eq H]
    exact ⟨(by first | rfl | (simp [IntKind.wrap_u32]; done)), HS.out⟩
  · replace H := if_no c959 H
    have c959b0 : decide (a956 < 0) = false := decide_eq_false c959
    clear c959
    by_cases c960 : a956 ≥ a957
    · replace H := if_yes c960 H
      have c960b0 : decide (a957 ≤ a956) = true := decide_eq_true c960
      clear c960
      go_wp2_with fail
      go_ret
      rw [← some_eq H]
      exact ⟨(by first | rfl | (simp [IntKind.wrap_u32]; done)), HS.out⟩
    · replace H := if_no c960 H
      have c960b0 : decide (a957 ≤ a956) = false := decide_eq_false c960
      clear c960
      go_wp2_with fail
      go_ret
      rw [← some_eq H]
      exact ⟨(by first | rfl | (simp [IntKind.wrap_u32]; done)), HS.out⟩

set_option maxHeartbeats 30000000 in
set_option maxRecDepth 100000 in
theorem ground_reg.calls (a955 : Int) (r : Int) (w : World)  (HGl0 : Aside0 (Gl 0 #[.int .i64 0, .int .i64 0, .int .i64 0, .int .i64 0, .int .i64 0] (fps []) w)) (HS : Aside0 (Sep (fps []) w [] w)) (H : Aside0 (ground_reg.f a955 = some r)) :
    Calls Tryd.prog 131 #[.int .i64 a955] w fun e w' => e = .returned (.int .i64 r) ∧ Sep (fps []) w [] w' := by
  unfold ground_reg.f at H
  go_enter Tryd.func131, Tryd.ntmps131
  go_wp2_with fail
  obtain ⟨t961, HA962, H⟩ := bind_some H
  refine (ground_within.calls a955 24 0 t961 _ ⟨HGl0.out.pass (l := []) HS.out⟩ ⟨Sep.start _⟩ HA962).mono ?_
  rintro e_ w963 ⟨rfl, hS⟩
  replace HS : Aside0 (Sep (fps []) w [] w963) := ⟨HS.out.call hS⟩
  clear hS
  go_wp2_with fail
  go_ret
  rw [← some_eq H]
  exact ⟨(by first | rfl | (simp [IntKind.wrap_u32]; done)), HS.out⟩

set_option maxHeartbeats 30000000 in
set_option maxRecDepth 100000 in
theorem store_Store_has.calls (l980 : List Int) (a985 : Int) (a986 : Int) (g978 : Nat) (A981 : Option Addr) (m982 : Nat) (n983 : Nat) (r : Bool) (w : World)  (HGl0 : Aside0 (Gl 0 #[.int .i64 0, .int .i64 0, .int .i64 0, .int .i64 0, .int .i64 0] (fps [b6 g978 A981 m982 n983 a985, r5 A981 m982 n983 l980]) w)) (HS : Aside0 (Sep (fps [b6 g978 A981 m982 n983 a985, r5 A981 m982 n983 l980]) w [b6 g978 A981 m982 n983 a985, r5 A981 m982 n983 l980] w)) (H : Aside0 (store_Store_has.f l980 a985 a986 = some r)) :
    Calls Tryd.prog 127 #[.pointer (some ⟨g978, 0, none⟩), .int .i64 a986] w fun e w' => e = .returned (.bool r) ∧ Sep (fps [b6 g978 A981 m982 n983 a985, r5 A981 m982 n983 l980]) w [b6 g978 A981 m982 n983 a985, r5 A981 m982 n983 l980] w' := by
  generalize (fps [b6 g978 A981 m982 n983 a985, r5 A981 m982 n983 l980]) = FF at HS HGl0 ⊢
  obtain rfl := (row_len (HS.out.at1)).symm
  unfold store_Store_has.f at H
  go_enter Tryd.func127, Tryd.ntmps127
  by_cases c987 : a986 ≥ 0
  · replace H := if_yes c987 H
    have c987b0 : decide (0 ≤ a986) = true := decide_eq_true c987
    clear c987
    have hc988 : w.cell? ⟨g978, 0, none⟩ = some (.slice A981 l980.length n983) := blk_cellv (HS.out.at0) 0 rfl
    go_wp2_with fail
    clear hc988
    go_ret
    rw [← some_eq H]
    exact ⟨(by first | rfl | (simp [IntKind.wrap_u32]; done)), HS.out⟩
  · replace H := if_no c987 H
    have c987b0 : decide (0 ≤ a986) = false := decide_eq_false c987
    clear c987
    go_wp2_with fail
    go_ret
    rw [← some_eq H]
    exact ⟨(by first | rfl | (simp [IntKind.wrap_u32]; done)), HS.out⟩

set_option maxHeartbeats 30000000 in
set_option maxRecDepth 100000 in
theorem atomic_Uint64_Add.calls (l996 : List Int) (a1001 : Int) (a1002 : Int) (g994 : Nat) (A997 : Option Addr) (m998 : Nat) (n999 : Nat) (r : Int × Int) (w : World)  (HGl0 : Aside0 (Gl 0 #[.int .i64 0, .int .i64 0, .int .i64 0, .int .i64 0, .int .i64 0] (fps [b6 g994 A997 m998 n999 a1001, r5 A997 m998 n999 l996]) w)) (HS : Aside0 (Sep (fps [b6 g994 A997 m998 n999 a1001, r5 A997 m998 n999 l996]) w [b6 g994 A997 m998 n999 a1001, r5 A997 m998 n999 l996] w)) (H : Aside0 (atomic_Uint64_Add.f l996 a1001 a1002 = some r)) :
    Calls Tryd.prog 128 #[.pointer (some ⟨g994, 1, none⟩), .int .u64 a1002] w fun e w' => e = .returned (.int .u64 r.1) ∧ Sep (fps [b6 g994 A997 m998 n999 a1001, r5 A997 m998 n999 l996]) w [b6 g994 A997 m998 n999 r.2, r5 A997 m998 n999 l996] w' := by
  generalize (fps [b6 g994 A997 m998 n999 a1001, r5 A997 m998 n999 l996]) = FF at HS HGl0 ⊢
  obtain rfl := (row_len (HS.out.at1)).symm
  unfold atomic_Uint64_Add.f at H
  go_enter Tryd.func128, Tryd.ntmps128
  obtain ⟨y1012, HA1013, H⟩ := bind_some H
  have hc1009 : w.cell? ⟨g994, 1, none⟩ = some (.int .u64 a1001) := blk_cellv (HS.out.at0) 1 rfl
  have hz1011 : w.frozen? ⟨g994, 1, none⟩ = false := blk_fz (HS.out.at0) 1
  have hn1010 : (callFunc 153 #[.pointer (some ⟨g994, 1, none⟩), .int .u64 a1002]).run Tryd.prog w = .ok (.value (.int .u64 y1012)) ((World.setCell w ⟨g994, 1, none⟩ (.int .u64 y1012))) := (some_eq HA1013) ▸ run_call_add Tryd.func153 (by kernel_rfl) (by kernel_rfl) (by kernel_rfl) .u64 (by kernel_rfl) hc1009 hz1011 (by rfl)
  go_wp2_with (first | ((with_reducible refine gate_dst (N := 9) rfl ?_); refine run_on2 (by rfl) (w1 := (World.setCell w ⟨g994, 1, none⟩ (.int .u64 y1012))) (v := .int .u64 y1012) ?hr ?_; (case hr => first | (go_simp; done) | (go_simp; rfl)); intro w1014 hst; clear hc1009 hz1011; have hq0 : Sep FF w [b6 g994 A997 l996.length n999 y1012, r5 A997 l996.length n999 l996] (World.setCell w ⟨g994, 1, none⟩ (.int .u64 y1012)) := (HS.out).set1 (l1 := []) (l2 := [r5 A997 l996.length n999 l996]) 1 (.int .u64 y1012); replace HS : Aside0 (Sep FF w [b6 g994 A997 l996.length n999 y1012, r5 A997 l996.length n999 l996] w1014) := ⟨by rw [hst]; exact hq0⟩; clear hst hn1010 hq0))
  go_ret
  rw [← some_eq H]
  exact ⟨(by first | rfl | (simp [IntKind.wrap_u32]; done)), HS.out⟩

set_option maxHeartbeats 30000000 in
set_option maxRecDepth 100000 in
theorem store_Store_Get.calls (l970 : List Int) (a975 : Int) (a976 : Int) (g968 : Nat) (A971 : Option Addr) (m972 : Nat) (n973 : Nat) (r : Int × Int) (w : World)  (HGl0 : Aside0 (Gl 0 #[.int .i64 0, .int .i64 0, .int .i64 0, .int .i64 0, .int .i64 0] (fps [b6 g968 A971 m972 n973 a975, r5 A971 m972 n973 l970]) w)) (HS : Aside0 (Sep (fps [b6 g968 A971 m972 n973 a975, r5 A971 m972 n973 l970]) w [b6 g968 A971 m972 n973 a975, r5 A971 m972 n973 l970] w)) (H : Aside0 (store_Store_Get.f l970 a975 a976 = some r)) :
    Calls Tryd.prog 130 #[.pointer (some ⟨g968, 0, none⟩), .int .i64 a976] w fun e w' => e = .returned (.int .u32 r.1) ∧ Sep (fps [b6 g968 A971 m972 n973 a975, r5 A971 m972 n973 l970]) w [b6 g968 A971 m972 n973 r.2, r5 A971 m972 n973 l970] w' := by
  generalize (fps [b6 g968 A971 m972 n973 a975, r5 A971 m972 n973 l970]) = FF at HS HGl0 ⊢
  obtain rfl := (row_len (HS.out.at1)).symm
  unfold store_Store_Get.f at H
  go_enter Tryd.func130, Tryd.ntmps130
  go_wp2_with fail
  obtain ⟨t1024, HA1025, H⟩ := bind_some H
  refine (store_Store_has.calls l970 a975 a976 g968 A971 l970.length n973 t1024 _ ⟨HGl0.out.pass HS.out⟩ ⟨HS.out.begin⟩ HA1025).mono ?_
  rintro e_ w1026 ⟨rfl, hS⟩
  replace HS : Aside0 (Sep FF w [b6 g968 A971 l970.length n973 a975, r5 A971 l970.length n973 l970] w1026) := ⟨HS.out.call hS⟩
  clear hS
  by_cases c1027 : t1024 = true
  · replace H := if_yes c1027 H
    have c1027b0 : t1024 = true := c1027
    have c1027b1 : (!t1024) = false := by rw [c1027b0]; rfl
    try rw [c1027b1]
    clear c1027
    go_wp2_with fail
    obtain ⟨t1028, HA1029, H⟩ := bind_some H
    refine (atomic_Uint64_Add.calls l970 a975 1 g968 A971 l970.length n973 t1028 _ ⟨HGl0.out.pass HS.out⟩ ⟨HS.out.begin⟩ HA1029).mono ?_
    rintro e_ w1030 ⟨rfl, hS⟩
    replace HS : Aside0 (Sep FF w [b6 g968 A971 l970.length n973 t1028.2, r5 A971 l970.length n973 l970] w1030) := ⟨HS.out.call hS⟩
    clear hS
    by_cases c1032 : 0 ≤ a976
    · replace H := if_yes c1032 H
      have c1032b0 : decide (0 ≤ a976) = true := decide_eq_true c1032
      have c1032p : (0 ≤ a976) = True := eq_true c1032
      clear c1032
      by_cases c1033 : a976 < (l970.length : Int)
      · replace H := if_yes c1033 H
        have c1033b0 : decide (a976 < (l970.length : Int)) = true := decide_eq_true c1033
        have c1033p : (a976 < (l970.length : Int)) = True := eq_true c1033
        clear c1033
        have hc1031 : w1030.cell? ⟨g968, 0, none⟩ = some (.slice A971 l970.length n973) := blk_cellv (HS.out.at0) 0 rfl
        obtain ⟨g1034, ea⟩ := row_at (HS.out.at1) (by have := (of_decide_eq_true c1032b0); have := (of_decide_eq_true c1033b0); omega); cases ea
        have hx1035 := C_at_int (row_Ci (HS.out.at1)) a976 (of_decide_eq_true c1032b0) (of_decide_eq_true c1033b0)
        have hx1036 : w1030.cell? ⟨g1034, (a976).toNat, none⟩ = some (.int .u32 (rd l970 a976)) := (row_get 0 (HS.out.at1) a976 (of_decide_eq_true c1032b0) (of_decide_eq_true c1033b0)).1
        go_wp2_with fail
        clear hc1031 hx1035 hx1036
        go_ret
        rw [← some_eq H]
        exact ⟨(by first | rfl | (simp [IntKind.wrap_u32]; done)), HS.out⟩
      · replace H := if_no c1033 H
        have c1033b0 : decide (a976 < (l970.length : Int)) = false := decide_eq_false c1033
        clear c1033
        exact (none_no H).elim
    · replace H := if_no c1032 H
      have c1032b0 : decide (0 ≤ a976) = false := decide_eq_false c1032
      clear c1032
      exact (none_no H).elim
  · replace H := if_no c1027 H
    have c1027b0 : t1024 = false := by simpa using c1027
    have c1027b1 : (!t1024) = true := by rw [c1027b0]; rfl
    try rw [c1027b1]
    clear c1027
    go_wp2_with fail
    go_ret
    rw [← some_eq H]
    exact ⟨(by first | rfl | (simp [IntKind.wrap_u32]; done)), HS.out⟩

set_option maxHeartbeats 30000000 in
set_option maxRecDepth 100000 in
theorem ground_Ground_Reg.calls (l925 : List Int) (a930 : Int) (a931 : Int) (a932 : Int) (a933 : Int) (a934 : Int) (a935 : Int) (g921 : Nat) (g923 : Nat) (A926 : Option Addr) (m927 : Nat) (n928 : Nat) (r : Int × Int) (w : World)  (HGl0 : Aside0 (Gl 0 #[.int .i64 0, .int .i64 0, .int .i64 0, .int .i64 0, .int .i64 0] (fps [b7 g921 g923 a931 a932 a933 a934, b6 g923 A926 m927 n928 a930, r5 A926 m927 n928 l925]) w)) (HS : Aside0 (Sep (fps [b7 g921 g923 a931 a932 a933 a934, b6 g923 A926 m927 n928 a930, r5 A926 m927 n928 l925]) w [b7 g921 g923 a931 a932 a933 a934, b6 g923 A926 m927 n928 a930, r5 A926 m927 n928 l925] w)) (H : Aside0 (ground_Ground_Reg.f l925 a930 a931 a932 a933 a934 a935 = some r)) :
    Calls Tryd.prog 81 #[.pointer (some ⟨g921, 0, none⟩), .int .i64 a935] w fun e w' => e = .returned (.int .i64 r.1) ∧ Sep (fps [b7 g921 g923 a931 a932 a933 a934, b6 g923 A926 m927 n928 a930, r5 A926 m927 n928 l925]) w [b7 g921 g923 a931 a932 a933 a934, b6 g923 A926 m927 n928 r.2, r5 A926 m927 n928 l925] w' := by
  generalize (fps [b7 g921 g923 a931 a932 a933 a934, b6 g923 A926 m927 n928 a930, r5 A926 m927 n928 l925]) = FF at HS HGl0 ⊢
  obtain rfl := (row_len (HS.out.at2)).symm
  unfold ground_Ground_Reg.f at H
  go_enter Tryd.func81, Tryd.ntmps81
  go_wp2_with fail
  obtain ⟨t1040, HA1041, H⟩ := bind_some H
  refine (ground_Ground_all.calls l925 a930 a931 a932 a933 a934 g921 g923 A926 l925.length n928 t1040 _ ⟨HGl0.out.pass HS.out⟩ ⟨HS.out.begin⟩ HA1041).mono ?_
  rintro e_ w1042 ⟨rfl, hS⟩
  replace HS : Aside0 (Sep FF w [b7 g921 g923 a931 a932 a933 a934, b6 g923 A926 l925.length n928 a930, r5 A926 l925.length n928 l925] w1042) := ⟨HS.out.call hS⟩
  clear hS
  go_wp2_with fail
  obtain ⟨t1043, HA1044, H⟩ := bind_some H
  refine (ground_reg.calls a935 t1043 _ ⟨HGl0.out.pass (l := []) HS.out⟩ ⟨Sep.start _⟩ HA1044).mono ?_
  rintro e_ w1045 ⟨rfl, hS⟩
  replace HS : Aside0 (Sep FF w [b7 g921 g923 a931 a932 a933 a934, b6 g923 A926 l925.length n928 a930, r5 A926 l925.length n928 l925] w1045) := ⟨HS.out.call hS⟩
  clear hS
  go_wp2_with fail
  replace HS : Aside0 (Sep FF w [r5 A926 l925.length n928 l925, b7 g921 g923 a931 a932 a933 a934, b6 g923 A926 l925.length n928 a930] w1045) := ⟨HS.out.front 2 (by simp)⟩
  replace HS : Aside0 (Sep FF w [b6 g923 A926 l925.length n928 a930, r5 A926 l925.length n928 l925, b7 g921 g923 a931 a932 a933 a934] w1045) := ⟨HS.out.front 2 (by simp)⟩
  obtain ⟨t1046, HA1047, H⟩ := bind_some H
  refine (store_Store_Get.calls l925 a930 t1043 g923 A926 l925.length n928 t1046 _ ⟨HGl0.out.pass HS.out⟩ ⟨HS.out.begin⟩ HA1047).mono ?_
  rintro e_ w1048 ⟨rfl, hS⟩
  replace HS : Aside0 (Sep FF w [b6 g923 A926 l925.length n928 t1046.2, r5 A926 l925.length n928 l925, b7 g921 g923 a931 a932 a933 a934] w1048) := ⟨HS.out.call hS⟩
  clear hS
  go_wp2_with fail
  go_ret
  rw [← some_eq H]
  exact ⟨(by first | rfl | (simp [IntKind.wrap_u32]; done)), ((((HS.out).front 1 (by simp)).front 1 (by simp)).front 2 (by simp)).keep (l := [b7 g921 g923 a931 a932 a933 a934, b6 g923 A926 l925.length n928 t1046.2, r5 A926 l925.length n928 l925]) (rest := [])⟩

set_option maxHeartbeats 30000000 in
set_option maxRecDepth 100000 in
theorem chain_Len.calls (l843 : List Int) (a848 : Int) (a849 : Int) (a850 : Int) (a851 : Int) (a852 : Int) (a853 : Int) (g839 : Nat) (g841 : Nat) (A844 : Option Addr) (m845 : Nat) (n846 : Nat) (r : Int × Int) (w : World)  (HGl0 : Aside0 (Gl 0 #[.int .i64 0, .int .i64 0, .int .i64 0, .int .i64 0, .int .i64 0] (fps [b7 g839 g841 a849 a850 a851 a852, b6 g841 A844 m845 n846 a848, r5 A844 m845 n846 l843]) w)) (HS : Aside0 (Sep (fps [b7 g839 g841 a849 a850 a851 a852, b6 g841 A844 m845 n846 a848, r5 A844 m845 n846 l843]) w [b7 g839 g841 a849 a850 a851 a852, b6 g841 A844 m845 n846 a848, r5 A844 m845 n846 l843] w)) (H : Aside0 (chain_Len.f l843 a848 a849 a850 a851 a852 a853 = some r)) :
    Calls Tryd.prog 105 #[.pointer (some ⟨g839, 0, none⟩), .int .i64 a853] w fun e w' => e = .returned (.int .i64 r.1) ∧ Sep (fps [b7 g839 g841 a849 a850 a851 a852, b6 g841 A844 m845 n846 a848, r5 A844 m845 n846 l843]) w [b7 g839 g841 a849 a850 a851 a852, b6 g841 A844 m845 n846 r.2, r5 A844 m845 n846 l843] w' := by
  generalize (fps [b7 g839 g841 a849 a850 a851 a852, b6 g841 A844 m845 n846 a848, r5 A844 m845 n846 l843]) = FF at HS HGl0 ⊢
  obtain rfl := (row_len (HS.out.at2)).symm
  unfold chain_Len.f at H
  go_enter Tryd.func105, Tryd.ntmps105
  go_wp2_with fail
  obtain ⟨t1052, HA1053, H⟩ := bind_some H
  refine (chain_of.calls l843 a848 a849 a850 a851 a852 a853 g839 g841 A844 l843.length n846 t1052 _ ⟨HGl0.out.pass HS.out⟩ ⟨HS.out.begin⟩ HA1053).mono ?_
  rintro e_ w1054 ⟨rfl, hS⟩
  replace HS : Aside0 (Sep FF w [b7 g839 g841 a849 a850 a851 a852, b6 g841 A844 l843.length n846 a848, r5 A844 l843.length n846 l843] w1054) := ⟨HS.out.call hS⟩
  clear hS
  by_cases c1065 : t1052.2.2.2 = true
  · replace H := if_yes c1065 H
    have c1065b0 : t1052.2.2.2 = true := c1065
    have c1065b1 : (!t1052.2.2.2) = false := by rw [c1065b0]; rfl
    try rw [c1065b1]
    clear c1065
    go_wp2_with (first | ((with_reducible refine gate_dst (N := 5) rfl ?_); refine box_on ?hg (N := 5) ?hd (cs := #[.int .i64 0, .int .i64 0, .int .i64 0]) (t := 166) ?hr ?_; (case hd => rfl); (case hg => rfl); (case hr => first | (go_simp; done) | (go_simp; rfl)); intro g1055 hg w1056 hbox hb; replace HS : Aside0 (Sep FF w [b7 g839 g841 a849 a850 a851 a852, b6 g841 A844 l843.length n846 a848, r5 A844 l843.length n846 l843, b8 g1055 0 0 0] w1056) := ⟨HS.out.box hg hbox hb⟩; clear hg hbox hb; have hc1058 : w1056.cell? ⟨g1055, 0, none⟩ = some (.int .i64 0) := blk_cellv (HS.out.at3) 0 rfl; have hz1059 : w1056.frozen? ⟨g1055, 0, none⟩ = false := blk_fz (HS.out.at3) 0; have hc1060 : w1056.cell? ⟨g1055, 1, none⟩ = some (.int .i64 0) := blk_cellv (HS.out.at3) 1 rfl; have hz1061 : w1056.frozen? ⟨g1055, 1, none⟩ = false := blk_fz (HS.out.at3) 1; have hc1062 : w1056.cell? ⟨g1055, 2, none⟩ = some (.int .i64 0) := blk_cellv (HS.out.at3) 2 rfl; have hz1063 : w1056.frozen? ⟨g1055, 2, none⟩ = false := blk_fz (HS.out.at3) 2) | ((with_reducible refine gate_store (t := 166) (p := 5) rfl ?_); refine store_event (w1 := (World.setCell (World.setCell (World.setCell w1056 ⟨g1055, 0, none⟩ (.int .i64 t1052.1)) ⟨g1055, 1, none⟩ (.int .i64 t1052.2.1)) ⟨g1055, 2, none⟩ (.int .i64 t1052.2.2.1))) rfl (t := 166) (p := 5) rfl rfl ?hr ?_; (case hr => first | (go_simp; done) | (go_simp; rfl)); intro w1064 hst; clear hc1058 hz1059 hc1060 hz1061 hc1062 hz1063; replace HS : Aside0 (Sep FF w [b7 g839 g841 a849 a850 a851 a852, b6 g841 A844 l843.length n846 a848, r5 A844 l843.length n846 l843, b8 g1055 t1052.1 t1052.2.1 t1052.2.2.1] w1064) := ⟨by rw [hst]; exact HS.out.setAll (l1 := [b7 g839 g841 a849 a850 a851 a852, b6 g841 A844 l843.length n846 a848, r5 A844 l843.length n846 l843]) (l2 := []) [.int .i64 t1052.1, .int .i64 t1052.2.1, .int .i64 t1052.2.2.1] rfl⟩; clear hst; have hc1066 : w1064.cell? ⟨g1055, 2, none⟩ = some (.int .i64 t1052.2.2.1) := blk_cellv (HS.out.at3) 2 rfl))
    clear hc1066
    obtain ⟨t1067, HA1068, H⟩ := bind_some H
    refine (ground_Ground_Reg.calls l843 a848 a849 a850 a851 a852 t1052.2.2.1 g839 g841 A844 l843.length n846 t1067 _ ⟨HGl0.out.pass HS.out⟩ ⟨HS.out.begin⟩ HA1068).mono ?_
    rintro e_ w1069 ⟨rfl, hS⟩
    replace HS : Aside0 (Sep FF w [b7 g839 g841 a849 a850 a851 a852, b6 g841 A844 l843.length n846 t1067.2, r5 A844 l843.length n846 l843, b8 g1055 t1052.1 t1052.2.1 t1052.2.2.1] w1069) := ⟨HS.out.call hS⟩
    clear hS
    replace HS : Aside0 (Sep FF w [b7 g839 g841 a849 a850 a851 a852, b6 g841 A844 l843.length n846 t1067.2, r5 A844 l843.length n846 l843] w1069) := ⟨HS.out.sub (.cons_cons _ (.cons_cons _ (.cons_cons _ (.cons _ .slnil))))⟩
    go_wp2_with fail
    go_ret
    rw [← some_eq H]
    exact ⟨(by first | rfl | (simp [IntKind.wrap_u32]; done)), HS.out⟩
  · replace H := if_no c1065 H
    have c1065b0 : t1052.2.2.2 = false := by simpa using c1065
    have c1065b1 : (!t1052.2.2.2) = true := by rw [c1065b0]; rfl
    try rw [c1065b1]
    clear c1065
    go_wp2_with (first | ((with_reducible refine gate_dst (N := 5) rfl ?_); refine box_on ?hg (N := 5) ?hd (cs := #[.int .i64 0, .int .i64 0, .int .i64 0]) (t := 166) ?hr ?_; (case hd => rfl); (case hg => rfl); (case hr => first | (go_simp; done) | (go_simp; rfl)); intro g1055 hg w1056 hbox hb; replace HS : Aside0 (Sep FF w [b7 g839 g841 a849 a850 a851 a852, b6 g841 A844 l843.length n846 a848, r5 A844 l843.length n846 l843, b8 g1055 0 0 0] w1056) := ⟨HS.out.box hg hbox hb⟩; clear hg hbox hb; have hc1058 : w1056.cell? ⟨g1055, 0, none⟩ = some (.int .i64 0) := blk_cellv (HS.out.at3) 0 rfl; have hz1059 : w1056.frozen? ⟨g1055, 0, none⟩ = false := blk_fz (HS.out.at3) 0; have hc1060 : w1056.cell? ⟨g1055, 1, none⟩ = some (.int .i64 0) := blk_cellv (HS.out.at3) 1 rfl; have hz1061 : w1056.frozen? ⟨g1055, 1, none⟩ = false := blk_fz (HS.out.at3) 1; have hc1062 : w1056.cell? ⟨g1055, 2, none⟩ = some (.int .i64 0) := blk_cellv (HS.out.at3) 2 rfl; have hz1063 : w1056.frozen? ⟨g1055, 2, none⟩ = false := blk_fz (HS.out.at3) 2) | ((with_reducible refine gate_store (t := 166) (p := 5) rfl ?_); refine store_event (w1 := (World.setCell (World.setCell (World.setCell w1056 ⟨g1055, 0, none⟩ (.int .i64 t1052.1)) ⟨g1055, 1, none⟩ (.int .i64 t1052.2.1)) ⟨g1055, 2, none⟩ (.int .i64 t1052.2.2.1))) rfl (t := 166) (p := 5) rfl rfl ?hr ?_; (case hr => first | (go_simp; done) | (go_simp; rfl)); intro w1064 hst; clear hc1058 hz1059 hc1060 hz1061 hc1062 hz1063; replace HS : Aside0 (Sep FF w [b7 g839 g841 a849 a850 a851 a852, b6 g841 A844 l843.length n846 a848, r5 A844 l843.length n846 l843, b8 g1055 t1052.1 t1052.2.1 t1052.2.2.1] w1064) := ⟨by rw [hst]; exact HS.out.setAll (l1 := [b7 g839 g841 a849 a850 a851 a852, b6 g841 A844 l843.length n846 a848, r5 A844 l843.length n846 l843]) (l2 := []) [.int .i64 t1052.1, .int .i64 t1052.2.1, .int .i64 t1052.2.2.1] rfl⟩; clear hst; replace HS : Aside0 (Sep FF w [b7 g839 g841 a849 a850 a851 a852, b6 g841 A844 l843.length n846 a848, r5 A844 l843.length n846 l843] w1064) := ⟨HS.out.sub (.cons_cons _ (.cons_cons _ (.cons_cons _ (.cons _ .slnil))))⟩))
    go_ret
    rw [← some_eq H]
    exact ⟨(by first | rfl | (simp [IntKind.wrap_u32]; done)), HS.out⟩

set_option maxHeartbeats 30000000 in
set_option maxRecDepth 100000 in
theorem ground_Ground_Conf.calls (l1083 : List Int) (a1088 : Int) (a1089 : Int) (a1090 : Int) (a1091 : Int) (a1092 : Int) (g1079 : Nat) (g1081 : Nat) (A1084 : Option Addr) (m1085 : Nat) (n1086 : Nat) (r : Int × Int × Int × Int) (w : World)  (HGl0 : Aside0 (Gl 0 #[.int .i64 0, .int .i64 0, .int .i64 0, .int .i64 0, .int .i64 0] (fps [b7 g1079 g1081 a1089 a1090 a1091 a1092, b6 g1081 A1084 m1085 n1086 a1088, r5 A1084 m1085 n1086 l1083]) w)) (HS : Aside0 (Sep (fps [b7 g1079 g1081 a1089 a1090 a1091 a1092, b6 g1081 A1084 m1085 n1086 a1088, r5 A1084 m1085 n1086 l1083]) w [b7 g1079 g1081 a1089 a1090 a1091 a1092, b6 g1081 A1084 m1085 n1086 a1088, r5 A1084 m1085 n1086 l1083] w)) (H : Aside0 (ground_Ground_Conf.f l1083 a1088 a1089 a1090 a1091 a1092 = some r)) :
    Calls Tryd.prog 86 #[.pointer (some ⟨g1079, 0, none⟩)] w fun e w' => e = .returned (.agg #[.int .i64 r.1, .int .i64 r.2.1, .int .i64 r.2.2.1, .int .i64 r.2.2.2]) ∧ Sep (fps [b7 g1079 g1081 a1089 a1090 a1091 a1092, b6 g1081 A1084 m1085 n1086 a1088, r5 A1084 m1085 n1086 l1083]) w [b7 g1079 g1081 a1089 a1090 a1091 a1092, b6 g1081 A1084 m1085 n1086 a1088, r5 A1084 m1085 n1086 l1083] w' := by
  generalize (fps [b7 g1079 g1081 a1089 a1090 a1091 a1092, b6 g1081 A1084 m1085 n1086 a1088, r5 A1084 m1085 n1086 l1083]) = FF at HS HGl0 ⊢
  obtain rfl := (row_len (HS.out.at2)).symm
  unfold ground_Ground_Conf.f at H
  go_enter Tryd.func86, Tryd.ntmps86
  go_wp2_with (first | ((with_reducible refine gate_dst (N := 2) rfl ?_); refine box_on ?hg (N := 2) ?hd (cs := #[.int .i64 0, .int .i64 0, .int .i64 0, .int .i64 0]) (t := 30) ?hr ?_; (case hd => rfl); (case hg => rfl); (case hr => first | (go_simp; done) | (go_simp; rfl)); intro g1093 hg w1094 hbox hb; replace HS : Aside0 (Sep FF w [b7 g1079 g1081 a1089 a1090 a1091 a1092, b6 g1081 A1084 l1083.length n1086 a1088, r5 A1084 l1083.length n1086 l1083, b1 g1093 0 0 0 0] w1094) := ⟨HS.out.box hg hbox hb⟩; clear hg hbox hb; have hc1096 : w1094.cell? ⟨g1079, 1, none⟩ = some (.int .i64 a1089) := blk_cellv (HS.out.at0) 1 rfl; have hc1097 : w1094.cell? ⟨g1079, 2, none⟩ = some (.int .i64 a1090) := blk_cellv (HS.out.at0) 2 rfl; have hc1098 : w1094.cell? ⟨g1079, 3, none⟩ = some (.int .i64 a1091) := blk_cellv (HS.out.at0) 3 rfl; have hc1099 : w1094.cell? ⟨g1079, 4, none⟩ = some (.int .i64 a1092) := blk_cellv (HS.out.at0) 4 rfl; have hc1100 : w1094.cell? ⟨g1093, 0, none⟩ = some (.int .i64 0) := blk_cellv (HS.out.at3) 0 rfl; have hz1101 : w1094.frozen? ⟨g1093, 0, none⟩ = false := blk_fz (HS.out.at3) 0; have hc1102 : w1094.cell? ⟨g1093, 1, none⟩ = some (.int .i64 0) := blk_cellv (HS.out.at3) 1 rfl; have hz1103 : w1094.frozen? ⟨g1093, 1, none⟩ = false := blk_fz (HS.out.at3) 1; have hc1104 : w1094.cell? ⟨g1093, 2, none⟩ = some (.int .i64 0) := blk_cellv (HS.out.at3) 2 rfl; have hz1105 : w1094.frozen? ⟨g1093, 2, none⟩ = false := blk_fz (HS.out.at3) 2; have hc1106 : w1094.cell? ⟨g1093, 3, none⟩ = some (.int .i64 0) := blk_cellv (HS.out.at3) 3 rfl; have hz1107 : w1094.frozen? ⟨g1093, 3, none⟩ = false := blk_fz (HS.out.at3) 3) | ((with_reducible refine gate_store (t := 30) (p := 2) rfl ?_); refine store_event (w1 := (World.setCell (World.setCell (World.setCell (World.setCell w1094 ⟨g1093, 0, none⟩ (.int .i64 a1089)) ⟨g1093, 1, none⟩ (.int .i64 a1090)) ⟨g1093, 2, none⟩ (.int .i64 a1091)) ⟨g1093, 3, none⟩ (.int .i64 a1092))) rfl (t := 30) (p := 2) rfl rfl ?hr ?_; (case hr => first | (go_simp; done) | (go_simp; rfl)); intro w1108 hst; clear hc1096 hc1097 hc1098 hc1099 hc1100 hz1101 hc1102 hz1103 hc1104 hz1105 hc1106 hz1107; replace HS : Aside0 (Sep FF w [b7 g1079 g1081 a1089 a1090 a1091 a1092, b6 g1081 A1084 l1083.length n1086 a1088, r5 A1084 l1083.length n1086 l1083, b1 g1093 a1089 a1090 a1091 a1092] w1108) := ⟨by rw [hst]; exact HS.out.setAll (l1 := [b7 g1079 g1081 a1089 a1090 a1091 a1092, b6 g1081 A1084 l1083.length n1086 a1088, r5 A1084 l1083.length n1086 l1083]) (l2 := []) [.int .i64 a1089, .int .i64 a1090, .int .i64 a1091, .int .i64 a1092] rfl⟩; clear hst))
  have hc1109 : w1108.cell? ⟨g1093, 0, none⟩ = some (.int .i64 a1089) := blk_cellv (HS.out.at3) 0 rfl
  have hc1110 : w1108.cell? ⟨g1093, 1, none⟩ = some (.int .i64 a1090) := blk_cellv (HS.out.at3) 1 rfl
  have hc1111 : w1108.cell? ⟨g1093, 2, none⟩ = some (.int .i64 a1091) := blk_cellv (HS.out.at3) 2 rfl
  have hc1112 : w1108.cell? ⟨g1093, 3, none⟩ = some (.int .i64 a1092) := blk_cellv (HS.out.at3) 3 rfl
  refine bodyPost_ret (v := .agg #[.int .i64 a1089, .int .i64 a1090, .int .i64 a1091, .int .i64 a1092]) (by simp [results, Tryd.results86, go_sem, hc1109, hc1110, hc1111, hc1112]) rfl ?_
  rw [← some_eq H]
  exact ⟨(by first | rfl | (simp [IntKind.wrap_u32]; done)), HS.out.sub (.cons_cons _ (.cons_cons _ (.cons_cons _ (.cons _ .slnil))))⟩

set_option maxHeartbeats 30000000 in
set_option maxRecDepth 100000 in
theorem ground_Ground_word.calls (l1254 : List Int) (a1259 : Int) (a1260 : Int) (a1261 : Int) (a1262 : Int) (a1263 : Int) (a1264 : Int) (a1265 : Int) (g1250 : Nat) (g1252 : Nat) (A1255 : Option Addr) (m1256 : Nat) (n1257 : Nat) (r : Int) (w : World)  (HGl0 : Aside0 (Gl 0 #[.int .i64 0, .int .i64 0, .int .i64 0, .int .i64 0, .int .i64 0] (fps [b7 g1250 g1252 a1260 a1261 a1262 a1263, b6 g1252 A1255 m1256 n1257 a1259, r5 A1255 m1256 n1257 l1254]) w)) (HS : Aside0 (Sep (fps [b7 g1250 g1252 a1260 a1261 a1262 a1263, b6 g1252 A1255 m1256 n1257 a1259, r5 A1255 m1256 n1257 l1254]) w [b7 g1250 g1252 a1260 a1261 a1262 a1263, b6 g1252 A1255 m1256 n1257 a1259, r5 A1255 m1256 n1257 l1254] w)) (H : Aside0 (ground_Ground_word.f l1254 a1259 a1260 a1261 a1262 a1263 a1264 a1265 = some r)) :
    Calls Tryd.prog 72 #[.pointer (some ⟨g1250, 0, none⟩), .int .i64 a1264, .int .i64 a1265] w fun e w' => e = .returned (.int .i64 r) ∧ Sep (fps [b7 g1250 g1252 a1260 a1261 a1262 a1263, b6 g1252 A1255 m1256 n1257 a1259, r5 A1255 m1256 n1257 l1254]) w [b7 g1250 g1252 a1260 a1261 a1262 a1263, b6 g1252 A1255 m1256 n1257 a1259, r5 A1255 m1256 n1257 l1254] w' := by
  generalize (fps [b7 g1250 g1252 a1260 a1261 a1262 a1263, b6 g1252 A1255 m1256 n1257 a1259, r5 A1255 m1256 n1257 l1254]) = FF at HS HGl0 ⊢
  obtain rfl := (row_len (HS.out.at2)).symm
  unfold ground_Ground_word.f at H
  go_enter Tryd.func72, Tryd.ntmps72
  go_wp2_with fail
  obtain ⟨t1266, HA1267, H⟩ := bind_some H
  refine (ground_Ground_Conf.calls l1254 a1259 a1260 a1261 a1262 a1263 g1250 g1252 A1255 l1254.length n1257 t1266 _ ⟨HGl0.out.pass HS.out⟩ ⟨HS.out.begin⟩ HA1267).mono ?_
  rintro e_ w1268 ⟨rfl, hS⟩
  replace HS : Aside0 (Sep FF w [b7 g1250 g1252 a1260 a1261 a1262 a1263, b6 g1252 A1255 l1254.length n1257 a1259, r5 A1255 l1254.length n1257 l1254] w1268) := ⟨HS.out.call hS⟩
  clear hS
  go_wp2_with (first | ((with_reducible refine gate_dst (N := 7) rfl ?_); refine box_on ?hg (N := 7) ?hd (cs := #[.int .i64 0, .int .i64 0, .int .i64 0, .int .i64 0]) (t := 30) ?hr ?_; (case hd => rfl); (case hg => rfl); (case hr => first | (go_simp; done) | (go_simp; rfl)); intro g1269 hg w1270 hbox hb; replace HS : Aside0 (Sep FF w [b7 g1250 g1252 a1260 a1261 a1262 a1263, b6 g1252 A1255 l1254.length n1257 a1259, r5 A1255 l1254.length n1257 l1254, b1 g1269 0 0 0 0] w1270) := ⟨HS.out.box hg hbox hb⟩; clear hg hbox hb; have hc1272 : w1270.cell? ⟨g1269, 0, none⟩ = some (.int .i64 0) := blk_cellv (HS.out.at3) 0 rfl; have hz1273 : w1270.frozen? ⟨g1269, 0, none⟩ = false := blk_fz (HS.out.at3) 0; have hc1274 : w1270.cell? ⟨g1269, 1, none⟩ = some (.int .i64 0) := blk_cellv (HS.out.at3) 1 rfl; have hz1275 : w1270.frozen? ⟨g1269, 1, none⟩ = false := blk_fz (HS.out.at3) 1; have hc1276 : w1270.cell? ⟨g1269, 2, none⟩ = some (.int .i64 0) := blk_cellv (HS.out.at3) 2 rfl; have hz1277 : w1270.frozen? ⟨g1269, 2, none⟩ = false := blk_fz (HS.out.at3) 2; have hc1278 : w1270.cell? ⟨g1269, 3, none⟩ = some (.int .i64 0) := blk_cellv (HS.out.at3) 3 rfl; have hz1279 : w1270.frozen? ⟨g1269, 3, none⟩ = false := blk_fz (HS.out.at3) 3) | ((with_reducible refine gate_store (t := 30) (p := 7) rfl ?_); refine store_event (w1 := (World.setCell (World.setCell (World.setCell (World.setCell w1270 ⟨g1269, 0, none⟩ (.int .i64 t1266.1)) ⟨g1269, 1, none⟩ (.int .i64 t1266.2.1)) ⟨g1269, 2, none⟩ (.int .i64 t1266.2.2.1)) ⟨g1269, 3, none⟩ (.int .i64 t1266.2.2.2))) rfl (t := 30) (p := 7) rfl rfl ?hr ?_; (case hr => first | (go_simp; done) | (go_simp; rfl)); intro w1280 hst; clear hc1272 hz1273 hc1274 hz1275 hc1276 hz1277 hc1278 hz1279; replace HS : Aside0 (Sep FF w [b7 g1250 g1252 a1260 a1261 a1262 a1263, b6 g1252 A1255 l1254.length n1257 a1259, r5 A1255 l1254.length n1257 l1254, b1 g1269 t1266.1 t1266.2.1 t1266.2.2.1 t1266.2.2.2] w1280) := ⟨by rw [hst]; exact HS.out.setAll (l1 := [b7 g1250 g1252 a1260 a1261 a1262 a1263, b6 g1252 A1255 l1254.length n1257 a1259, r5 A1255 l1254.length n1257 l1254]) (l2 := []) [.int .i64 t1266.1, .int .i64 t1266.2.1, .int .i64 t1266.2.2.1, .int .i64 t1266.2.2.2] rfl⟩; clear hst; have hc1281 : w1280.cell? ⟨g1269, 0, none⟩ = some (.int .i64 t1266.1) := blk_cellv (HS.out.at3) 0 rfl))
  clear hc1281
  obtain ⟨t1282, HA1283, H⟩ := bind_some H
  refine (ground_within.calls a1264 t1266.1 0 t1282 _ ⟨HGl0.out.pass (l := []) HS.out⟩ ⟨Sep.start _⟩ HA1283).mono ?_
  rintro e_ w1284 ⟨rfl, hS⟩
  replace HS : Aside0 (Sep FF w [b7 g1250 g1252 a1260 a1261 a1262 a1263, b6 g1252 A1255 l1254.length n1257 a1259, r5 A1255 l1254.length n1257 l1254, b1 g1269 t1266.1 t1266.2.1 t1266.2.2.1 t1266.2.2.2] w1284) := ⟨HS.out.call hS⟩
  clear hS
  by_cases c1285 : t1282 = (-1)
  · replace H := if_yes c1285 H
    have c1285b0 : (t1282 == (-1)) = true := beq_iff_eq.mpr c1285
    have c1285b1 : (t1282 != (-1)) = false := bne_eq_false_iff_eq.mpr c1285
    clear c1285
    replace HS : Aside0 (Sep FF w [b7 g1250 g1252 a1260 a1261 a1262 a1263, b6 g1252 A1255 l1254.length n1257 a1259, r5 A1255 l1254.length n1257 l1254] w1284) := ⟨HS.out.sub (.cons_cons _ (.cons_cons _ (.cons_cons _ (.cons _ .slnil))))⟩
    go_wp2_with fail
    go_ret
    rw [← some_eq H]
    exact ⟨(by first | rfl | (simp [IntKind.wrap_u32]; done)), HS.out⟩
  · replace H := if_no c1285 H
    have c1285b0 : (t1282 == (-1)) = false := beq_eq_false_iff_ne.mpr c1285
    have c1285b1 : (t1282 != (-1)) = true := bne_iff_ne.mpr c1285
    clear c1285
    have hc1286 : w1284.cell? ⟨g1269, 1, none⟩ = some (.int .i64 t1266.2.1) := blk_cellv (HS.out.at3) 1 rfl
    have hc1287 : w1284.cell? ⟨g1269, 2, none⟩ = some (.int .i64 t1266.2.2.1) := blk_cellv (HS.out.at3) 2 rfl
    go_wp2_with fail
    clear hc1286 hc1287
    obtain ⟨t1288, HA1289, H⟩ := bind_some H
    refine (ground_within.calls a1265 t1266.2.1 (wrap64 ((wrap64 (24 + t1266.2.2.1)) + (wrap64 (a1264 * t1266.2.1)))) t1288 _ ⟨HGl0.out.pass (l := []) HS.out⟩ ⟨Sep.start _⟩ HA1289).mono ?_
    rintro e_ w1290 ⟨rfl, hS⟩
    replace HS : Aside0 (Sep FF w [b7 g1250 g1252 a1260 a1261 a1262 a1263, b6 g1252 A1255 l1254.length n1257 a1259, r5 A1255 l1254.length n1257 l1254, b1 g1269 t1266.1 t1266.2.1 t1266.2.2.1 t1266.2.2.2] w1290) := ⟨HS.out.call hS⟩
    clear hS
    replace HS : Aside0 (Sep FF w [b7 g1250 g1252 a1260 a1261 a1262 a1263, b6 g1252 A1255 l1254.length n1257 a1259, r5 A1255 l1254.length n1257 l1254] w1290) := ⟨HS.out.sub (.cons_cons _ (.cons_cons _ (.cons_cons _ (.cons _ .slnil))))⟩
    go_wp2_with fail
    go_ret
    rw [← some_eq H]
    exact ⟨(by first | rfl | (simp [IntKind.wrap_u32]; done)), HS.out⟩

set_option maxHeartbeats 30000000 in
set_option maxRecDepth 100000 in
theorem store_Store_Put.calls (l1297 : List Int) (a1302 : Int) (a1303 : Int) (a1304 : Int) (g1295 : Nat) (A1298 : Option Addr) (m1299 : Nat) (n1300 : Nat) (r : Bool × Int × List Int) (w : World)  (HGl0 : Aside0 (Gl 0 #[.int .i64 0, .int .i64 0, .int .i64 0, .int .i64 0, .int .i64 0] (fps [b6 g1295 A1298 m1299 n1300 a1302, r5 A1298 m1299 n1300 l1297]) w)) (HS : Aside0 (Sep (fps [b6 g1295 A1298 m1299 n1300 a1302, r5 A1298 m1299 n1300 l1297]) w [b6 g1295 A1298 m1299 n1300 a1302, r5 A1298 m1299 n1300 l1297] w)) (H : Aside0 (store_Store_Put.f l1297 a1302 a1303 a1304 = some r)) :
    Calls Tryd.prog 71 #[.pointer (some ⟨g1295, 0, none⟩), .int .i64 a1303, .int .u32 a1304] w fun e w' => e = .returned (.bool r.1) ∧ Sep (fps [b6 g1295 A1298 m1299 n1300 a1302, r5 A1298 m1299 n1300 l1297]) w [b6 g1295 A1298 m1299 n1300 r.2.1, r5 A1298 m1299 n1300 r.2.2] w' := by
  generalize (fps [b6 g1295 A1298 m1299 n1300 a1302, r5 A1298 m1299 n1300 l1297]) = FF at HS HGl0 ⊢
  obtain rfl := (row_len (HS.out.at1)).symm
  unfold store_Store_Put.f at H
  go_enter Tryd.func71, Tryd.ntmps71
  go_wp2_with fail
  obtain ⟨t1321, HA1322, H⟩ := bind_some H
  refine (store_Store_has.calls l1297 a1302 a1303 g1295 A1298 l1297.length n1300 t1321 _ ⟨HGl0.out.pass HS.out⟩ ⟨HS.out.begin⟩ HA1322).mono ?_
  rintro e_ w1323 ⟨rfl, hS⟩
  replace HS : Aside0 (Sep FF w [b6 g1295 A1298 l1297.length n1300 a1302, r5 A1298 l1297.length n1300 l1297] w1323) := ⟨HS.out.call hS⟩
  clear hS
  by_cases c1324 : t1321 = true
  · replace H := if_yes c1324 H
    have c1324b0 : t1321 = true := c1324
    have c1324b1 : (!t1321) = false := by rw [c1324b0]; rfl
    try rw [c1324b1]
    clear c1324
    go_wp2_with fail
    obtain ⟨t1325, HA1326, H⟩ := bind_some H
    refine (atomic_Uint64_Add.calls l1297 a1302 1 g1295 A1298 l1297.length n1300 t1325 _ ⟨HGl0.out.pass HS.out⟩ ⟨HS.out.begin⟩ HA1326).mono ?_
    rintro e_ w1327 ⟨rfl, hS⟩
    replace HS : Aside0 (Sep FF w [b6 g1295 A1298 l1297.length n1300 t1325.2, r5 A1298 l1297.length n1300 l1297] w1327) := ⟨HS.out.call hS⟩
    clear hS
    by_cases c1329 : 0 ≤ a1303
    · replace H := if_yes c1329 H
      have c1329b0 : decide (0 ≤ a1303) = true := decide_eq_true c1329
      have c1329p : (0 ≤ a1303) = True := eq_true c1329
      clear c1329
      by_cases c1330 : a1303 < (l1297.length : Int)
      · replace H := if_yes c1330 H
        have c1330b0 : decide (a1303 < (l1297.length : Int)) = true := decide_eq_true c1330
        have c1330p : (a1303 < (l1297.length : Int)) = True := eq_true c1330
        clear c1330
        obtain ⟨y1333, HA1334, H⟩ := bind_some H
        have hc1328 : w1327.cell? ⟨g1295, 0, none⟩ = some (.slice A1298 l1297.length n1300) := blk_cellv (HS.out.at0) 0 rfl
        obtain ⟨g1331, ea⟩ := row_at (HS.out.at1) (by have := (of_decide_eq_true c1329b0); have := (of_decide_eq_true c1330b0); omega); cases ea
        have hx1335 := (row_get 0 (HS.out.at1) a1303 (of_decide_eq_true c1329b0) (of_decide_eq_true c1330b0)).1
        have hz1336 := (row_get 0 (HS.out.at1) a1303 (of_decide_eq_true c1329b0) (of_decide_eq_true c1330b0)).2
        go_wp2_with (first | ((with_reducible refine gate_store (t := 33) (p := 21) rfl ?_); refine store_event (w1 := World.setCell w1327 ⟨g1331, (a1303).toNat, none⟩ (.int .u32 a1304)) rfl (t := 33) (p := 21) rfl rfl ?hr ?_; (case hr => first | (go_simp; done) | (go_simp; rfl)); intro w1332 hst; clear hc1328 hx1335 hz1336; have hq := Sep.rowset (l1 := [b6 g1295 (some ⟨g1331, 0, none⟩) l1297.length n1300 t1325.2]) (l2 := []) HS.out a1303 a1304; rw [← hst, some_eq HA1334] at hq; replace HS : Aside0 (Sep FF w [b6 g1295 (some ⟨g1331, 0, none⟩) l1297.length n1300 t1325.2, r5 (some ⟨g1331, 0, none⟩) l1297.length n1300 y1333] w1332) := ⟨hq⟩; clear hst hq))
        go_ret
        rw [← some_eq H]
        exact ⟨(by first | rfl | (simp [IntKind.wrap_u32]; done)), HS.out⟩
      · replace H := if_no c1330 H
        have c1330b0 : decide (a1303 < (l1297.length : Int)) = false := decide_eq_false c1330
        clear c1330
        exact (none_no H).elim
    · replace H := if_no c1329 H
      have c1329b0 : decide (0 ≤ a1303) = false := decide_eq_false c1329
      clear c1329
      exact (none_no H).elim
  · replace H := if_no c1324 H
    have c1324b0 : t1321 = false := by simpa using c1324
    have c1324b1 : (!t1321) = true := by rw [c1324b0]; rfl
    try rw [c1324b1]
    clear c1324
    go_wp2_with fail
    go_ret
    rw [← some_eq H]
    exact ⟨(by first | rfl | (simp [IntKind.wrap_u32]; done)), HS.out⟩

set_option maxHeartbeats 30000000 in
set_option maxRecDepth 100000 in
theorem ground_Ground_SetWord.calls (l1233 : List Int) (a1238 : Int) (a1239 : Int) (a1240 : Int) (a1241 : Int) (a1242 : Int) (a1243 : Int) (a1244 : Int) (a1245 : Int) (g1229 : Nat) (g1231 : Nat) (A1234 : Option Addr) (m1235 : Nat) (n1236 : Nat) (r : Bool × Int × List Int) (w : World)  (HGl0 : Aside0 (Gl 0 #[.int .i64 0, .int .i64 0, .int .i64 0, .int .i64 0, .int .i64 0] (fps [b7 g1229 g1231 a1239 a1240 a1241 a1242, b6 g1231 A1234 m1235 n1236 a1238, r5 A1234 m1235 n1236 l1233]) w)) (HS : Aside0 (Sep (fps [b7 g1229 g1231 a1239 a1240 a1241 a1242, b6 g1231 A1234 m1235 n1236 a1238, r5 A1234 m1235 n1236 l1233]) w [b7 g1229 g1231 a1239 a1240 a1241 a1242, b6 g1231 A1234 m1235 n1236 a1238, r5 A1234 m1235 n1236 l1233] w)) (H : Aside0 (ground_Ground_SetWord.f l1233 a1238 a1239 a1240 a1241 a1242 a1243 a1244 a1245 = some r)) :
    Calls Tryd.prog 17 #[.pointer (some ⟨g1229, 0, none⟩), .int .i64 a1243, .int .i64 a1244, .int .u32 a1245] w fun e w' => e = .returned (.bool r.1) ∧ Sep (fps [b7 g1229 g1231 a1239 a1240 a1241 a1242, b6 g1231 A1234 m1235 n1236 a1238, r5 A1234 m1235 n1236 l1233]) w [b7 g1229 g1231 a1239 a1240 a1241 a1242, b6 g1231 A1234 m1235 n1236 r.2.1, r5 A1234 m1235 n1236 r.2.2] w' := by
  generalize (fps [b7 g1229 g1231 a1239 a1240 a1241 a1242, b6 g1231 A1234 m1235 n1236 a1238, r5 A1234 m1235 n1236 l1233]) = FF at HS HGl0 ⊢
  obtain rfl := (row_len (HS.out.at2)).symm
  unfold ground_Ground_SetWord.f at H
  go_enter Tryd.func17, Tryd.ntmps17
  go_wp2_with fail
  obtain ⟨t1340, HA1341, H⟩ := bind_some H
  refine (ground_Ground_all.calls l1233 a1238 a1239 a1240 a1241 a1242 g1229 g1231 A1234 l1233.length n1236 t1340 _ ⟨HGl0.out.pass HS.out⟩ ⟨HS.out.begin⟩ HA1341).mono ?_
  rintro e_ w1342 ⟨rfl, hS⟩
  replace HS : Aside0 (Sep FF w [b7 g1229 g1231 a1239 a1240 a1241 a1242, b6 g1231 A1234 l1233.length n1236 a1238, r5 A1234 l1233.length n1236 l1233] w1342) := ⟨HS.out.call hS⟩
  clear hS
  go_wp2_with fail
  obtain ⟨t1343, HA1344, H⟩ := bind_some H
  refine (ground_Ground_word.calls l1233 a1238 a1239 a1240 a1241 a1242 a1243 a1244 g1229 g1231 A1234 l1233.length n1236 t1343 _ ⟨HGl0.out.pass HS.out⟩ ⟨HS.out.begin⟩ HA1344).mono ?_
  rintro e_ w1345 ⟨rfl, hS⟩
  replace HS : Aside0 (Sep FF w [b7 g1229 g1231 a1239 a1240 a1241 a1242, b6 g1231 A1234 l1233.length n1236 a1238, r5 A1234 l1233.length n1236 l1233] w1345) := ⟨HS.out.call hS⟩
  clear hS
  go_wp2_with fail
  replace HS : Aside0 (Sep FF w [r5 A1234 l1233.length n1236 l1233, b7 g1229 g1231 a1239 a1240 a1241 a1242, b6 g1231 A1234 l1233.length n1236 a1238] w1345) := ⟨HS.out.front 2 (by simp)⟩
  replace HS : Aside0 (Sep FF w [b6 g1231 A1234 l1233.length n1236 a1238, r5 A1234 l1233.length n1236 l1233, b7 g1229 g1231 a1239 a1240 a1241 a1242] w1345) := ⟨HS.out.front 2 (by simp)⟩
  obtain ⟨t1346, HA1347, H⟩ := bind_some H
  refine (store_Store_Put.calls l1233 a1238 t1343 a1245 g1231 A1234 l1233.length n1236 t1346 _ ⟨HGl0.out.pass HS.out⟩ ⟨HS.out.begin⟩ HA1347).mono ?_
  rintro e_ w1348 ⟨rfl, hS⟩
  replace HS : Aside0 (Sep FF w [b6 g1231 A1234 l1233.length n1236 t1346.2.1, r5 A1234 l1233.length n1236 t1346.2.2, b7 g1229 g1231 a1239 a1240 a1241 a1242] w1348) := ⟨HS.out.call hS⟩
  clear hS
  go_wp2_with fail
  go_ret
  rw [← some_eq H]
  exact ⟨(by first | rfl | (simp [IntKind.wrap_u32]; done)), ((((HS.out).front 1 (by simp)).front 1 (by simp)).front 2 (by simp)).keep (l := [b7 g1229 g1231 a1239 a1240 a1241 a1242, b6 g1231 A1234 l1233.length n1236 t1346.2.1, r5 A1234 l1233.length n1236 t1346.2.2]) (rest := [])⟩

set_option maxHeartbeats 30000000 in
set_option maxRecDepth 100000 in
theorem ground_Ground_set.calls (l1380 : List Int) (a1385 : Int) (a1386 : Int) (a1387 : Int) (a1388 : Int) (a1389 : Int) (a1390 : Int) (a1391 : Int) (g1376 : Nat) (g1378 : Nat) (A1381 : Option Addr) (m1382 : Nat) (n1383 : Nat) (r : Bool × Int × List Int) (w : World)  (HGl0 : Aside0 (Gl 0 #[.int .i64 0, .int .i64 0, .int .i64 0, .int .i64 0, .int .i64 0] (fps [b7 g1376 g1378 a1386 a1387 a1388 a1389, b6 g1378 A1381 m1382 n1383 a1385, r5 A1381 m1382 n1383 l1380]) w)) (HS : Aside0 (Sep (fps [b7 g1376 g1378 a1386 a1387 a1388 a1389, b6 g1378 A1381 m1382 n1383 a1385, r5 A1381 m1382 n1383 l1380]) w [b7 g1376 g1378 a1386 a1387 a1388 a1389, b6 g1378 A1381 m1382 n1383 a1385, r5 A1381 m1382 n1383 l1380] w)) (H : Aside0 (ground_Ground_set.f l1380 a1385 a1386 a1387 a1388 a1389 a1390 a1391 = some r)) :
    Calls Tryd.prog 132 #[.pointer (some ⟨g1376, 0, none⟩), .int .i64 a1390, .int .i64 a1391] w fun e w' => e = .returned (.bool r.1) ∧ Sep (fps [b7 g1376 g1378 a1386 a1387 a1388 a1389, b6 g1378 A1381 m1382 n1383 a1385, r5 A1381 m1382 n1383 l1380]) w [b7 g1376 g1378 a1386 a1387 a1388 a1389, b6 g1378 A1381 m1382 n1383 r.2.1, r5 A1381 m1382 n1383 r.2.2] w' := by
  generalize (fps [b7 g1376 g1378 a1386 a1387 a1388 a1389, b6 g1378 A1381 m1382 n1383 a1385, r5 A1381 m1382 n1383 l1380]) = FF at HS HGl0 ⊢
  obtain rfl := (row_len (HS.out.at2)).symm
  unfold ground_Ground_set.f at H
  go_enter Tryd.func132, Tryd.ntmps132
  by_cases c1400 : a1391 < 0
  · replace H := if_yes c1400 H
    have c1400b0 : decide (a1391 < 0) = true := decide_eq_true c1400
    clear c1400
    go_wp2_with fail
    go_ret
    rw [← some_eq H]
    exact ⟨(by first | rfl | (simp [IntKind.wrap_u32]; done)), HS.out⟩
  · replace H := if_no c1400 H
    have c1400b0 : decide (a1391 < 0) = false := decide_eq_false c1400
    clear c1400
    by_cases c1401 : a1391 > 4294967295
    · replace H := if_yes c1401 H
      have c1401b0 : decide (4294967295 < a1391) = true := decide_eq_true c1401
      clear c1401
      go_wp2_with fail
      go_ret
      rw [← some_eq H]
      exact ⟨(by first | rfl | (simp [IntKind.wrap_u32]; done)), HS.out⟩
    · replace H := if_no c1401 H
      have c1401b0 : decide (4294967295 < a1391) = false := decide_eq_false c1401
      clear c1401
      go_wp2_with fail
      obtain ⟨t1402, HA1403, H⟩ := bind_some H
      refine (ground_Ground_all.calls l1380 a1385 a1386 a1387 a1388 a1389 g1376 g1378 A1381 l1380.length n1383 t1402 _ ⟨HGl0.out.pass HS.out⟩ ⟨HS.out.begin⟩ HA1403).mono ?_
      rintro e_ w1404 ⟨rfl, hS⟩
      replace HS : Aside0 (Sep FF w [b7 g1376 g1378 a1386 a1387 a1388 a1389, b6 g1378 A1381 l1380.length n1383 a1385, r5 A1381 l1380.length n1383 l1380] w1404) := ⟨HS.out.call hS⟩
      clear hS
      go_wp2_with fail
      replace HS : Aside0 (Sep FF w [r5 A1381 l1380.length n1383 l1380, b7 g1376 g1378 a1386 a1387 a1388 a1389, b6 g1378 A1381 l1380.length n1383 a1385] w1404) := ⟨HS.out.front 2 (by simp)⟩
      replace HS : Aside0 (Sep FF w [b6 g1378 A1381 l1380.length n1383 a1385, r5 A1381 l1380.length n1383 l1380, b7 g1376 g1378 a1386 a1387 a1388 a1389] w1404) := ⟨HS.out.front 2 (by simp)⟩
      obtain ⟨t1405, HA1406, H⟩ := bind_some H
      refine (store_Store_Put.calls l1380 a1385 a1390 ((a1391) % 4294967296) g1378 A1381 l1380.length n1383 t1405 _ ⟨HGl0.out.pass HS.out⟩ ⟨HS.out.begin⟩ HA1406).mono ?_
      rintro e_ w1407 ⟨rfl, hS⟩
      replace HS : Aside0 (Sep FF w [b6 g1378 A1381 l1380.length n1383 t1405.2.1, r5 A1381 l1380.length n1383 t1405.2.2, b7 g1376 g1378 a1386 a1387 a1388 a1389] w1407) := ⟨HS.out.call hS⟩
      clear hS
      go_wp2_with fail
      go_ret
      rw [← some_eq H]
      exact ⟨(by first | rfl | (simp [IntKind.wrap_u32]; done)), ((((HS.out).front 1 (by simp)).front 1 (by simp)).front 2 (by simp)).keep (l := [b7 g1376 g1378 a1386 a1387 a1388 a1389, b6 g1378 A1381 l1380.length n1383 t1405.2.1, r5 A1381 l1380.length n1383 t1405.2.2]) (rest := [])⟩

set_option maxHeartbeats 30000000 in
set_option maxRecDepth 100000 in
theorem ground_Ground_SetReg.calls (l1360 : List Int) (a1365 : Int) (a1366 : Int) (a1367 : Int) (a1368 : Int) (a1369 : Int) (a1370 : Int) (a1371 : Int) (g1356 : Nat) (g1358 : Nat) (A1361 : Option Addr) (m1362 : Nat) (n1363 : Nat) (r : Bool × Int × List Int) (w : World)  (HGl0 : Aside0 (Gl 0 #[.int .i64 0, .int .i64 0, .int .i64 0, .int .i64 0, .int .i64 0] (fps [b7 g1356 g1358 a1366 a1367 a1368 a1369, b6 g1358 A1361 m1362 n1363 a1365, r5 A1361 m1362 n1363 l1360]) w)) (HS : Aside0 (Sep (fps [b7 g1356 g1358 a1366 a1367 a1368 a1369, b6 g1358 A1361 m1362 n1363 a1365, r5 A1361 m1362 n1363 l1360]) w [b7 g1356 g1358 a1366 a1367 a1368 a1369, b6 g1358 A1361 m1362 n1363 a1365, r5 A1361 m1362 n1363 l1360] w)) (H : Aside0 (ground_Ground_SetReg.f l1360 a1365 a1366 a1367 a1368 a1369 a1370 a1371 = some r)) :
    Calls Tryd.prog 83 #[.pointer (some ⟨g1356, 0, none⟩), .int .i64 a1370, .int .i64 a1371] w fun e w' => e = .returned (.bool r.1) ∧ Sep (fps [b7 g1356 g1358 a1366 a1367 a1368 a1369, b6 g1358 A1361 m1362 n1363 a1365, r5 A1361 m1362 n1363 l1360]) w [b7 g1356 g1358 a1366 a1367 a1368 a1369, b6 g1358 A1361 m1362 n1363 r.2.1, r5 A1361 m1362 n1363 r.2.2] w' := by
  generalize (fps [b7 g1356 g1358 a1366 a1367 a1368 a1369, b6 g1358 A1361 m1362 n1363 a1365, r5 A1361 m1362 n1363 l1360]) = FF at HS HGl0 ⊢
  obtain rfl := (row_len (HS.out.at2)).symm
  unfold ground_Ground_SetReg.f at H
  go_enter Tryd.func83, Tryd.ntmps83
  go_wp2_with fail
  obtain ⟨t1411, HA1412, H⟩ := bind_some H
  refine (ground_reg.calls a1370 t1411 _ ⟨HGl0.out.pass (l := []) HS.out⟩ ⟨Sep.start _⟩ HA1412).mono ?_
  rintro e_ w1413 ⟨rfl, hS⟩
  replace HS : Aside0 (Sep FF w [b7 g1356 g1358 a1366 a1367 a1368 a1369, b6 g1358 A1361 l1360.length n1363 a1365, r5 A1361 l1360.length n1363 l1360] w1413) := ⟨HS.out.call hS⟩
  clear hS
  go_wp2_with fail
  obtain ⟨t1414, HA1415, H⟩ := bind_some H
  refine (ground_Ground_set.calls l1360 a1365 a1366 a1367 a1368 a1369 t1411 a1371 g1356 g1358 A1361 l1360.length n1363 t1414 _ ⟨HGl0.out.pass HS.out⟩ ⟨HS.out.begin⟩ HA1415).mono ?_
  rintro e_ w1416 ⟨rfl, hS⟩
  replace HS : Aside0 (Sep FF w [b7 g1356 g1358 a1366 a1367 a1368 a1369, b6 g1358 A1361 l1360.length n1363 t1414.2.1, r5 A1361 l1360.length n1363 t1414.2.2] w1416) := ⟨HS.out.call hS⟩
  clear hS
  go_wp2_with fail
  go_ret
  rw [← some_eq H]
  exact ⟨(by first | rfl | (simp [IntKind.wrap_u32]; done)), HS.out⟩

set_option maxHeartbeats 30000000 in
set_option maxRecDepth 100000 in
theorem chain_Add_1.calls (a1198 : Int) (a1199 : Int) (a1200 : Int) (a1201 : Int) (a1202 : Int) (l1210 : List Int) (a1215 : Int) (a1216 : Int) (a1217 : Int) (a1218 : Int) (a1219 : Int) (a1222 : Int) (g1204 : Nat) (g1206 : Nat) (g1208 : Nat) (A1211 : Option Addr) (m1212 : Nat) (n1213 : Nat) (g1221 : Nat) (r : Int × List Int) (w : World)  (HGl0 : Aside0 (Gl 0 #[.int .i64 0, .int .i64 0, .int .i64 0, .int .i64 0, .int .i64 0] (fps [b9 g1204 g1206, b7 g1206 g1208 a1216 a1217 a1218 a1219, b6 g1208 A1211 m1212 n1213 a1215, r5 A1211 m1212 n1213 l1210, b10 g1221 a1222]) w)) (HS : Aside0 (Sep (fps [b9 g1204 g1206, b7 g1206 g1208 a1216 a1217 a1218 a1219, b6 g1208 A1211 m1212 n1213 a1215, r5 A1211 m1212 n1213 l1210, b10 g1221 a1222]) w [b9 g1204 g1206, b7 g1206 g1208 a1216 a1217 a1218 a1219, b6 g1208 A1211 m1212 n1213 a1215, r5 A1211 m1212 n1213 l1210, b10 g1221 a1222] w)) (H : Aside0 (chain_Add_1.f a1198 a1199 a1200 a1201 a1202 l1210 a1215 a1216 a1217 a1218 a1219 a1222 = some r)) :
    Calls Tryd.prog 143 #[.agg #[.int .i64 a1198, .int .i64 a1199, .int .i64 a1200], .int .i64 a1201, .int .i64 a1202, .pointer (some ⟨g1204, 0, none⟩), .pointer (some ⟨g1221, 0, none⟩)] w fun e w' => e = .returned (.tuple #[]) ∧ Sep (fps [b9 g1204 g1206, b7 g1206 g1208 a1216 a1217 a1218 a1219, b6 g1208 A1211 m1212 n1213 a1215, r5 A1211 m1212 n1213 l1210, b10 g1221 a1222]) w [b9 g1204 g1206, b7 g1206 g1208 a1216 a1217 a1218 a1219, b6 g1208 A1211 m1212 n1213 r.1, r5 A1211 m1212 n1213 r.2, b10 g1221 a1222] w' := by
  generalize (fps [b9 g1204 g1206, b7 g1206 g1208 a1216 a1217 a1218 a1219, b6 g1208 A1211 m1212 n1213 a1215, r5 A1211 m1212 n1213 l1210, b10 g1221 a1222]) = FF at HS HGl0 ⊢
  obtain rfl := (row_len (HS.out.at3)).symm
  unfold chain_Add_1.f at H
  go_enter Tryd.func143, Tryd.ntmps143
  go_wp2_with (first | ((with_reducible refine gate_dst (N := 5) rfl ?_); refine box_on ?hg (N := 5) ?hd (cs := #[.int .i64 a1198, .int .i64 a1199, .int .i64 a1200]) (t := 166) ?hr ?_; (case hd => rfl); (case hg => rfl); (case hr => first | (go_simp; done) | (go_simp; rfl)); intro g1425 hg w1426 hbox hb; replace HS : Aside0 (Sep FF w [b9 g1204 g1206, b7 g1206 g1208 a1216 a1217 a1218 a1219, b6 g1208 A1211 l1210.length n1213 a1215, r5 A1211 l1210.length n1213 l1210, b10 g1221 a1222, b8 g1425 a1198 a1199 a1200] w1426) := ⟨HS.out.box hg hbox hb⟩; clear hg hbox hb; have hc1428 : w1426.cell? ⟨g1204, 0, none⟩ = some (.pointer (some ⟨g1206, 0, none⟩)) := blk_cellv (HS.out.at0) 0 rfl; have hc1429 : w1426.cell? ⟨g1221, 0, none⟩ = some (.int .i64 a1222) := blk_cellv (HS.out.at4) 0 rfl))
  clear hc1428 hc1429
  replace HS : Aside0 (Sep FF w [r5 A1211 l1210.length n1213 l1210, b9 g1204 g1206, b7 g1206 g1208 a1216 a1217 a1218 a1219, b6 g1208 A1211 l1210.length n1213 a1215, b10 g1221 a1222, b8 g1425 a1198 a1199 a1200] w1426) := ⟨HS.out.front 3 (by simp)⟩
  replace HS : Aside0 (Sep FF w [b6 g1208 A1211 l1210.length n1213 a1215, r5 A1211 l1210.length n1213 l1210, b9 g1204 g1206, b7 g1206 g1208 a1216 a1217 a1218 a1219, b10 g1221 a1222, b8 g1425 a1198 a1199 a1200] w1426) := ⟨HS.out.front 3 (by simp)⟩
  replace HS : Aside0 (Sep FF w [b7 g1206 g1208 a1216 a1217 a1218 a1219, b6 g1208 A1211 l1210.length n1213 a1215, r5 A1211 l1210.length n1213 l1210, b9 g1204 g1206, b10 g1221 a1222, b8 g1425 a1198 a1199 a1200] w1426) := ⟨HS.out.front 3 (by simp)⟩
  obtain ⟨t1430, HA1431, H⟩ := bind_some H
  refine (ground_Ground_SetWord.calls l1210 a1215 a1216 a1217 a1218 a1219 a1222 5 0 g1206 g1208 A1211 l1210.length n1213 t1430 _ ⟨HGl0.out.pass HS.out⟩ ⟨HS.out.begin⟩ HA1431).mono ?_
  rintro e_ w1432 ⟨rfl, hS⟩
  replace HS : Aside0 (Sep FF w [b7 g1206 g1208 a1216 a1217 a1218 a1219, b6 g1208 A1211 l1210.length n1213 t1430.2.1, r5 A1211 l1210.length n1213 t1430.2.2, b9 g1204 g1206, b10 g1221 a1222, b8 g1425 a1198 a1199 a1200] w1432) := ⟨HS.out.call hS⟩
  clear hS
  by_cases c1433 : a1202 = 0
  · replace H := if_yes c1433 H
    have c1433b0 : (a1202 == 0) = true := beq_iff_eq.mpr c1433
    have c1433b1 : (a1202 != 0) = false := bne_eq_false_iff_eq.mpr c1433
    clear c1433
    have hc1434 : w1432.cell? ⟨g1204, 0, none⟩ = some (.pointer (some ⟨g1206, 0, none⟩)) := blk_cellv (HS.out.at3) 0 rfl
    have hc1435 : w1432.cell? ⟨g1425, 0, none⟩ = some (.int .i64 a1198) := blk_cellv (HS.out.at5) 0 rfl
    go_wp2_with fail
    clear hc1434 hc1435
    obtain ⟨t1436, HA1437, H⟩ := bind_some H
    refine (ground_Ground_SetReg.calls t1430.2.2 t1430.2.1 a1216 a1217 a1218 a1219 a1198 a1201 g1206 g1208 A1211 l1210.length n1213 t1436 _ ⟨HGl0.out.pass HS.out⟩ ⟨HS.out.begin⟩ HA1437).mono ?_
    rintro e_ w1438 ⟨rfl, hS⟩
    replace HS : Aside0 (Sep FF w [b7 g1206 g1208 a1216 a1217 a1218 a1219, b6 g1208 A1211 l1210.length n1213 t1436.2.1, r5 A1211 l1210.length n1213 t1436.2.2, b9 g1204 g1206, b10 g1221 a1222, b8 g1425 a1198 a1199 a1200] w1438) := ⟨HS.out.call hS⟩
    clear hS
    have hc1439 : w1438.cell? ⟨g1204, 0, none⟩ = some (.pointer (some ⟨g1206, 0, none⟩)) := blk_cellv (HS.out.at3) 0 rfl
    have hc1440 : w1438.cell? ⟨g1425, 1, none⟩ = some (.int .i64 a1199) := blk_cellv (HS.out.at5) 1 rfl
    go_wp2_with fail
    clear hc1439 hc1440
    obtain ⟨t1441, HA1442, H⟩ := bind_some H
    refine (ground_Ground_SetReg.calls t1436.2.2 t1436.2.1 a1216 a1217 a1218 a1219 a1199 a1201 g1206 g1208 A1211 l1210.length n1213 t1441 _ ⟨HGl0.out.pass HS.out⟩ ⟨HS.out.begin⟩ HA1442).mono ?_
    rintro e_ w1443 ⟨rfl, hS⟩
    replace HS : Aside0 (Sep FF w [b7 g1206 g1208 a1216 a1217 a1218 a1219, b6 g1208 A1211 l1210.length n1213 t1441.2.1, r5 A1211 l1210.length n1213 t1441.2.2, b9 g1204 g1206, b10 g1221 a1222, b8 g1425 a1198 a1199 a1200] w1443) := ⟨HS.out.call hS⟩
    clear hS
    replace HS : Aside0 (Sep FF w [b7 g1206 g1208 a1216 a1217 a1218 a1219, b6 g1208 A1211 l1210.length n1213 t1441.2.1, r5 A1211 l1210.length n1213 t1441.2.2, b9 g1204 g1206, b10 g1221 a1222] w1443) := ⟨HS.out.sub (.cons_cons _ (.cons_cons _ (.cons_cons _ (.cons_cons _ (.cons_cons _ (.cons _ .slnil))))))⟩
    go_wp2_with fail
    first | go_end0 | refine bodyPost_ret (results_none rfl _ _ _) rfl ?_
    rw [← some_eq H]
    exact ⟨rfl, ((((((HS.out).front 4 (by simp)).front 3 (by simp)).front 3 (by simp)).front 3 (by simp)).front 4 (by simp)).keep (l := [b9 g1204 g1206, b7 g1206 g1208 a1216 a1217 a1218 a1219, b6 g1208 A1211 l1210.length n1213 t1441.2.1, r5 A1211 l1210.length n1213 t1441.2.2, b10 g1221 a1222]) (rest := [])⟩
  · replace H := if_no c1433 H
    have c1433b0 : (a1202 == 0) = false := beq_eq_false_iff_ne.mpr c1433
    have c1433b1 : (a1202 != 0) = true := bne_iff_ne.mpr c1433
    clear c1433
    go_wp2_with fail
    refine start_ (n := 9) (S := (fun w' => w'.cell? ⟨g1204, 0, none⟩ = some (.pointer (some ⟨g1206, 0, none⟩)) ∧ w'.cell? ⟨g1425, 1, none⟩ = some (.int .i64 a1199))) (ds := []) #[false, false, false, false, false, false, false, false, false] (by kernel_rfl) rfl rfl (⟨blk_cellv ((HS.out.drew).at3) 0 rfl, blk_cellv ((HS.out.drew).at5) 1 rfl⟩) (fun hHeld => ?_)
    have HS_ := Aside0.mk HS.out.drew
    clear HS
    generalize World.drew _ = w1445 at HS_ hHeld ⊢
    have HS := HS_
    clear HS_
    refine pure_ (i := 2) (N := some 20) (v := ?_) (a' := ?_) #[false, false, true, false, false, false, false, false, false] rfl rfl (by kernel_rfl) (fun _ _ _ h => h) (Or.inl ⟨by rfl, ?_⟩) ?_ ?_
    rotate_left
    · intro w'
      go_simp
      with_reducible rfl
    rotate_left
    · simp only [Act.put, List.setIfInBounds_toArray, List.set_cons_zero, List.set_cons_succ, i64_w, i32_w]
      rfl
    refine pure_ (i := 6) (N := some 24) (v := ?_) (a' := ?_) #[false, false, true, false, false, false, true, false, false] rfl rfl (by kernel_rfl) (fun _ _ _ h => h) (Or.inl ⟨by rfl, ?_⟩) ?_ ?_
    rotate_left
    · intro w'
      go_simp
      with_reducible rfl
    rotate_left
    · simp only [Act.put, List.setIfInBounds_toArray, List.set_cons_zero, List.set_cons_succ, i64_w, i32_w]
      rfl
    refine pure_ (i := 7) (N := some 25) (v := ?_) (a' := ?_) #[false, false, true, false, false, false, true, true, false] rfl rfl (by kernel_rfl) (fun _ _ _ h => h) (Or.inl ⟨by rfl, ?_⟩) ?_ ?_
    rotate_left
    · intro w'
      go_simp
      with_reducible rfl
    rotate_left
    · simp only [Act.put, List.setIfInBounds_toArray, List.set_cons_zero, List.set_cons_succ, i64_w, i32_w, IntKind.wrap_u32]
      rfl
    refine take_ (i := 0) (N := some 18) (v := ?_) (a' := ?_) #[true, false, true, false, false, false, true, true, false] rfl rfl (by kernel_rfl) (fun _ _ _ h => h) (Or.inl ⟨by rfl, ?_⟩) hHeld ?_ ?_
    rotate_left
    · rintro w' hS'
      obtain ⟨s0, s1⟩ := hS'
      go_simp
      with_reducible rfl
    rotate_left
    · simp only [Act.put, List.setIfInBounds_toArray, List.set_cons_zero, List.set_cons_succ, i64_w, i32_w]
      rfl
    refine take_ (i := 1) (N := some 19) (v := ?_) (a' := ?_) #[true, true, true, false, false, false, true, true, false] rfl rfl (by kernel_rfl) (fun _ _ _ h => h) (Or.inl ⟨by rfl, ?_⟩) hHeld ?_ ?_
    rotate_left
    · rintro w' hS'
      obtain ⟨s0, s1⟩ := hS'
      go_simp
      with_reducible rfl
    rotate_left
    · simp only [Act.put, List.setIfInBounds_toArray, List.set_cons_zero, List.set_cons_succ, i64_w, i32_w]
      rfl
    refine take_ (i := 3) (N := some 21) (v := ?_) (a' := ?_) #[true, true, true, true, false, false, true, true, false] rfl rfl (by kernel_rfl) (fun _ _ _ h => h) (Or.inl ⟨by rfl, ?_⟩) hHeld ?_ ?_
    rotate_left
    · rintro w' hS'
      obtain ⟨s0, s1⟩ := hS'
      go_simp
      with_reducible rfl
    rotate_left
    · simp only [Act.put, List.setIfInBounds_toArray, List.set_cons_zero, List.set_cons_succ, i64_w, i32_w]
      rfl
    refine one_ (i := 4) (N := some 22) #[true, true, true, true, true, false, true, true, false] rfl rfl (by kernel_rfl) (by decide) (fun K hK => ?_)
    obtain ⟨t1446, HA1447, H⟩ := bind_some H
    refine goes_ Tryd.func81 (by kernel_rfl) rfl #[.pointer (some ⟨g1206, 0, none⟩), .int .i64 a1199] (by rfl) rfl rfl (by (try simp only [List.map_toArray, List.map_cons, List.map_nil]); first | done | rfl) ?_
    refine (ground_Ground_Reg.calls t1430.2.2 t1430.2.1 a1216 a1217 a1218 a1219 a1199 g1206 g1208 A1211 l1210.length n1213 t1446 _ ⟨HGl0.out.pass HS.out⟩ ⟨HS.out.begin⟩ HA1447).mono ?_
    rintro e_ w1448 ⟨rfl, hS⟩
    replace HS : Aside0 (Sep FF w [b7 g1206 g1208 a1216 a1217 a1218 a1219, b6 g1208 A1211 l1210.length n1213 t1446.2, r5 A1211 l1210.length n1213 t1430.2.2, b9 g1204 g1206, b10 g1221 a1222, b8 g1425 a1198 a1199 a1200] w1448) := ⟨HS.out.call hS⟩
    clear hS
    refine ⟨_, rfl, ?_⟩
    refine hK.out _ _ (⟨blk_cellv (HS.out.at3) 0 rfl, blk_cellv (HS.out.at5) 1 rfl⟩) (fun hHeld => ?_)
    clear hK K
    refine norm_ (a' := ?_) ?_ ?_
    rotate_left
    · show Act.put _ (some 22) _ = _
      simp only [Act.put, List.setIfInBounds_toArray, List.set_cons_zero, List.set_cons_succ, i64_w, i32_w]
      rfl
    refine pure_ (i := 5) (N := some 23) (v := ?_) (a' := ?_) #[true, true, true, true, true, true, true, true, false] rfl rfl (by kernel_rfl) (fun _ _ _ h => h) (Or.inl ⟨by rfl, ?_⟩) ?_ ?_
    rotate_left
    · intro w'
      go_simp
      with_reducible rfl
    rotate_left
    · simp only [Act.put, List.setIfInBounds_toArray, List.set_cons_zero, List.set_cons_succ, i64_w, i32_w]
      rfl
    refine one_ (i := 8) (N := some 26) #[true, true, true, true, true, true, true, true, true] rfl rfl (by kernel_rfl) (by decide) (fun K hK => ?_)
    obtain ⟨t1449, HA1450, H⟩ := bind_some H
    refine goes_ Tryd.func17 (by kernel_rfl) rfl #[.pointer (some ⟨g1206, 0, none⟩), .int .i64 (wrap64 (t1446.1 - 1)), .int .i64 5, .int .u32 ((a1201) % 4294967296)] (by rfl) rfl rfl (by (try simp only [List.map_toArray, List.map_cons, List.map_nil]); first | done | rfl) ?_
    refine (ground_Ground_SetWord.calls t1430.2.2 t1446.2 a1216 a1217 a1218 a1219 (wrap64 (t1446.1 - 1)) 5 ((a1201) % 4294967296) g1206 g1208 A1211 l1210.length n1213 t1449 _ ⟨HGl0.out.pass HS.out⟩ ⟨HS.out.begin⟩ HA1450).mono ?_
    rintro e_ w1451 ⟨rfl, hS⟩
    replace HS : Aside0 (Sep FF w [b7 g1206 g1208 a1216 a1217 a1218 a1219, b6 g1208 A1211 l1210.length n1213 t1449.2.1, r5 A1211 l1210.length n1213 t1449.2.2, b9 g1204 g1206, b10 g1221 a1222, b8 g1425 a1198 a1199 a1200] w1451) := ⟨HS.out.call hS⟩
    clear hS
    refine ⟨_, rfl, ?_⟩
    refine hK.out _ _ (⟨blk_cellv (HS.out.at3) 0 rfl, blk_cellv (HS.out.at5) 1 rfl⟩) (fun hHeld => ?_)
    clear hK K
    refine norm_ (a' := ?_) ?_ ?_
    rotate_left
    · show Act.put _ (some 26) _ = _
      simp only [Act.put, List.setIfInBounds_toArray, List.set_cons_zero, List.set_cons_succ, i64_w, i32_w]
      rfl
    refine done_ (by kernel_rfl) ?_
    have hc1452 : w1451.cell? ⟨g1204, 0, none⟩ = some (.pointer (some ⟨g1206, 0, none⟩)) := blk_cellv (HS.out.at3) 0 rfl
    have hc1453 : w1451.cell? ⟨g1425, 1, none⟩ = some (.int .i64 a1199) := blk_cellv (HS.out.at5) 1 rfl
    go_wp2_with fail
    clear hc1452 hc1453
    obtain ⟨t1441, HA1454, H⟩ := bind_some H
    refine (ground_Ground_SetReg.calls t1449.2.2 t1449.2.1 a1216 a1217 a1218 a1219 a1199 a1201 g1206 g1208 A1211 l1210.length n1213 t1441 _ ⟨HGl0.out.pass HS.out⟩ ⟨HS.out.begin⟩ HA1454).mono ?_
    rintro e_ w1455 ⟨rfl, hS⟩
    replace HS : Aside0 (Sep FF w [b7 g1206 g1208 a1216 a1217 a1218 a1219, b6 g1208 A1211 l1210.length n1213 t1441.2.1, r5 A1211 l1210.length n1213 t1441.2.2, b9 g1204 g1206, b10 g1221 a1222, b8 g1425 a1198 a1199 a1200] w1455) := ⟨HS.out.call hS⟩
    clear hS
    replace HS : Aside0 (Sep FF w [b7 g1206 g1208 a1216 a1217 a1218 a1219, b6 g1208 A1211 l1210.length n1213 t1441.2.1, r5 A1211 l1210.length n1213 t1441.2.2, b9 g1204 g1206, b10 g1221 a1222] w1455) := ⟨HS.out.sub (.cons_cons _ (.cons_cons _ (.cons_cons _ (.cons_cons _ (.cons_cons _ (.cons _ .slnil))))))⟩
    go_wp2_with fail
    first | go_end0 | refine bodyPost_ret (results_none rfl _ _ _) rfl ?_
    rw [← some_eq H]
    exact ⟨rfl, ((((((HS.out).front 4 (by simp)).front 3 (by simp)).front 3 (by simp)).front 3 (by simp)).front 4 (by simp)).keep (l := [b9 g1204 g1206, b7 g1206 g1208 a1216 a1217 a1218 a1219, b6 g1208 A1211 l1210.length n1213 t1441.2.1, r5 A1211 l1210.length n1213 t1441.2.2, b10 g1221 a1222]) (rest := [])⟩
end Go.Proofs.YtobeonkddamnoaaDoor.C

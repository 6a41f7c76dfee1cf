/- Each function of the group Cp does what its plain function says, and changes nothing that was there; proved by walking its code. No condition. -/
import Derived.Test.YtobeonkddamnoaaQw
import Derived.Test.YtobeonkddamnoaaMCp
namespace Go.Proofs.Ytobeonkddamnoaa.C
open Go.RowKit Go.Proofs.YtobeonkddamnoaaW.PrintWords Go.Proofs.YtobeonkddamnoaaW.PrintLast Go.Proofs.Ytobeonkddamnoaa.Q Go.Proofs.Ytobeonkddamnoaa.M
set_option linter.unusedVariables false
set_option linter.unusedSimpArgs false
def b1 (g : Nat) (x0 : Int) (x1 : Int) (x2 : Int) (x3 : Int) : Ob := blk g #[.int .i64 x0, .int .i64 x1, .int .i64 x2, .int .i64 x3] 49
def b2 (g : Nat) (x0 : Int) (x1 : Int) (x2 : Int) (x3 : Int) (x4 : Int) (x5 : Int) (x6 : Int) (x7 : Int) : Ob := blk g #[.int .i64 x0, .int .i64 x1, .int .i64 x2, .int .i64 x3, .int .i64 x4, .int .i64 x5, .int .i64 x6, .int .i64 x7] 120
def b3 (g : Nat) (x0 : Int) (x1 : Int) : Ob := blk g #[.int .i64 x0, .int .i64 x1] 3
def b4 (g : Nat) (x0 : Int) (x1 : Int) (x2 : Int) : Ob := blk g #[.int .i64 x0, .int .i64 x1, .int .i64 x2] 3
def r5 (A : Option Addr) (n c : Nat) (l : List Int) : Ob := row 23 (Value.int .u32) (.slice A n c) l
def b6 (g : Nat) (x0 : Option Addr) (x1 : Nat) (x2 : Nat) (x3 : Int) : Ob := blk g #[.slice x0 x1 x2, .int .u64 x3] 115
def b7 (g : Nat) (x0 : Nat) (x1 : Int) (x2 : Int) (x3 : Int) (x4 : Int) : Ob := blk g #[.pointer (some ⟨x0, 0, none⟩), .int .i64 x1, .int .i64 x2, .int .i64 x3, .int .i64 x4] 126
def b8 (g : Nat) (x0 : Nat) : Ob := blk g #[.pointer (some ⟨x0, 0, none⟩)] 50
def b9 (g : Nat) (x0 : Int) : Ob := blk g #[.int .i64 x0] 3
def b10 (g : Nat) (x0 : Int) (x1 : Int) (x2 : Int) : Ob := blk g #[.int .i64 x0, .int .i64 x1, .int .i64 x2] 134
def r11 (A : Option Addr) (n c : Nat) (l : List Int) : Ob := row 3 (Value.int .i64) (.slice A n c) l
def b12 (g : Nat)  : Ob := blk g #[.slice none 0 0, .slice none 0 0] 84
def b13 (g : Nat) (x0 : Option Addr) (x1 : Nat) (x2 : Nat) : Ob := blk g #[.slice x0 x1 x2, .slice none 0 0] 84
def b14 (g : Nat) (x0 : Option Addr) (x1 : Nat) (x2 : Nat) (x3 : Option Addr) (x4 : Nat) (x5 : Nat) : Ob := blk g #[.slice x0 x1 x2, .slice x3 x4 x5] 84
abbrev s15 : Kd (Int × Int × Int) := (Kd.pair (Kd.int .u8) (Kd.pair (Kd.int .i64) (Kd.int .i64)))
theorem s15_at {F : Nat → Prop} {w W : World} {A : Option Addr} {n : Nat} {xs : List (Int × Int × Int)} (h : Rd s15 F w A n xs) (hf : Fr F w W) (i : Int) (h0 : 0 ≤ i) (h1 : i < n) : ∃ ad, A = some ad ∧ W.cell? (ad.add (i.toNat * 3)) = some (.int .u8 ((rdOf (0, 0, 0) xs i).1)) ∧ W.cell? ⟨(ad.add (i.toNat * 3)).block, (ad.add (i.toNat * 3)).off + 1, none⟩ = some (.int .i64 ((rdOf (0, 0, 0) xs i).2.1)) ∧ W.cell? ⟨(ad.add (i.toNat * 3)).block, (ad.add (i.toNat * 3)).off + 2, none⟩ = some (.int .i64 ((rdOf (0, 0, 0) xs i).2.2)) := by
  obtain ⟨ad, c, e, hl, hk, hc⟩ := Rd.el h hf (0, 0, 0) i h0 h1
  obtain ⟨_, _, rfl, rfl, ⟨_, _, rfl, rfl, rfl⟩⟩ := hk
  exact ⟨ad, e, hc 0 _ rfl, hc 1 _ rfl, hc 2 _ rfl⟩
def b16 (g : Nat) (x0 : Int) (x1 : Int) (x2 : Int) : Ob := blk g #[.int .u8 x0, .int .i64 x1, .int .i64 x2] 86

set_option maxHeartbeats 30000000 in
set_option maxRecDepth 100000 in
theorem ratio_Clamp.calls (a52 : Int) (a53 : Int) (a54 : Int) (r : Int) (w : World)   (HS : Aside0 (Sep (fps []) w [] w)) (H : Aside0 (ratio_Clamp.f a52 a53 a54 = some r)) :
    Calls Try.prog 123 #[.int .i64 a52, .int .i64 a53, .int .i64 a54] w fun e w' => e = .returned (.int .i64 r) ∧ Sep (fps []) w [] w' := by
  unfold ratio_Clamp.f at H
  go_enter Try.func123, Try.ntmps123
  by_cases c55 : a52 > a54
  ·replace H := if_yes c55 H
   have c55b0 : decide (a54 < a52) = true := decide_eq_true c55
   clear c55
   go_wp2_with fail
   go_ret
   rw [← some_eq H]
   exact ⟨(by first | rfl | (simp [IntKind.wrap_u32]; done)), HS.out⟩
  ·replace H := if_no c55 H
   have c55b0 : decide (a54 < a52) = false := decide_eq_false c55
   clear c55
   by_cases c56 : a52 < a53
   ·replace H := if_yes c56 H
    have c56b0 : decide (a52 < a53) = true := decide_eq_true c56
    skip
    go_wp2_with fail
    clear c56
    go_ret
    rw [← some_eq H]
    exact ⟨(by first | rfl | (simp [IntKind.wrap_u32]; done)), HS.out⟩
   ·replace H := if_no c56 H
    have c56b0 : decide (a52 < a53) = false := decide_eq_false c56
    skip
    go_wp2_with fail
    clear c56
    go_ret
    rw [← some_eq H]
    exact ⟨(by first | rfl | (simp [IntKind.wrap_u32]; done)), HS.out⟩

set_option maxHeartbeats 30000000 in
set_option maxRecDepth 100000 in
theorem plan_within.calls (a49 : Int) (a50 : Int) (a51 : Int) (r : Bool) (w : World)   (HS : Aside0 (Sep (fps []) w [] w)) (H : Aside0 (plan_within.f a49 a50 a51 = some r)) :
    Calls Try.prog 115 #[.int .i64 a49, .int .i64 a50, .int .i64 a51] w fun e w' => e = .returned (.bool r) ∧ Sep (fps []) w [] w' := by
  unfold plan_within.f at H
  go_enter Try.func115, Try.ntmps115
  go_wp2_with fail
  obtain ⟨t57, HA58, H⟩ := bind_some H
  refine (ratio_Clamp.calls a49 a50 a51 t57 _ ⟨Sep.start _⟩ HA58).mono ?_
  rintro e_ w59 ⟨rfl, hS⟩
  replace HS : Aside0 (Sep (fps []) w [] w59) := ⟨HS.out.call hS⟩
  clear hS
  go_wp2_with fail
  go_ret
  rw [← some_eq H]
  exact ⟨(by first | rfl | (simp [IntKind.wrap_u32]; done)), HS.out⟩

set_option maxHeartbeats 30000000 in
set_option maxRecDepth 100000 in
theorem plan_Check.calls (a41 : Int) (a42 : Int) (a43 : Int) (a44 : Int) (r : Int) (w : World)   (HS : Aside0 (Sep (fps []) w [] w)) (H : Aside0 (plan_Check.f a41 a42 a43 a44 = some r)) :
    Calls Try.prog 105 #[.agg #[.int .i64 a41, .int .i64 a42, .int .i64 a43, .int .i64 a44]] w fun e w' => e = .returned (.int .i64 r) ∧ Sep (fps []) w [] w' := by
  unfold plan_Check.f at H
  go_enter Try.func105, Try.ntmps105
  go_wp2_with (first | ((with_reducible refine gate_dst (N := 1) rfl ?_); refine box_on ?hg (N := 1) ?hd (cs := #[.int .i64 a41, .int .i64 a42, .int .i64 a43, .int .i64 a44]) (t := 49) ?hr ?_; (case hd => rfl); (case hg => rfl); (case hr => first | (go_simp; done) | (go_simp; rfl)); intro g45 hg w46 hbox hb; replace HS : Aside0 (Sep (fps []) w [b1 g45 a41 a42 a43 a44] w46) := ⟨HS.out.box hg hbox hb⟩; clear hg hbox hb; have hc48 : w46.cell? ⟨g45, 0, none⟩ = some (.int .i64 a41) := blk_cellv (HS.out.at0) 0 rfl))
  clear hc48
  obtain ⟨t60, HA61, H⟩ := bind_some H
  refine (plan_within.calls a41 1 1048576 t60 _ ⟨Sep.start _⟩ HA61).mono ?_
  rintro e_ w62 ⟨rfl, hS⟩
  replace HS : Aside0 (Sep (fps []) w [b1 g45 a41 a42 a43 a44] w62) := ⟨HS.out.call hS⟩
  clear hS
  by_cases c63 : t60 = true
  ·replace H := if_yes c63 H
   have c63b0 : t60 = true := c63
   have c63b1 : (!t60) = false := by rw [c63b0]; rfl
   clear c63
   have hc64 : w62.cell? ⟨g45, 1, none⟩ = some (.int .i64 a42) := blk_cellv (HS.out.at0) 1 rfl
   go_wp2_with fail
   clear hc64
   obtain ⟨t65, HA66, H⟩ := bind_some H
   refine (plan_within.calls a42 16 256 t65 _ ⟨Sep.start _⟩ HA66).mono ?_
   rintro e_ w67 ⟨rfl, hS⟩
   replace HS : Aside0 (Sep (fps []) w [b1 g45 a41 a42 a43 a44] w67) := ⟨HS.out.call hS⟩
   clear hS
   by_cases c68 : t65 = true
   ·replace H := if_yes c68 H
    have c68b0 : t65 = true := c68
    have c68b1 : (!t65) = false := by rw [c68b0]; rfl
    clear c68
    have hc69 : w67.cell? ⟨g45, 2, none⟩ = some (.int .i64 a43) := blk_cellv (HS.out.at0) 2 rfl
    go_wp2_with fail
    clear hc69
    obtain ⟨t70, HA71, H⟩ := bind_some H
    refine (plan_within.calls a43 1 4096 t70 _ ⟨Sep.start _⟩ HA71).mono ?_
    rintro e_ w72 ⟨rfl, hS⟩
    replace HS : Aside0 (Sep (fps []) w [b1 g45 a41 a42 a43 a44] w72) := ⟨HS.out.call hS⟩
    clear hS
    by_cases c73 : t70 = true
    ·replace H := if_yes c73 H
     have c73b0 : t70 = true := c73
     have c73b1 : (!t70) = false := by rw [c73b0]; rfl
     clear c73
     have hc74 : w72.cell? ⟨g45, 3, none⟩ = some (.int .i64 a44) := blk_cellv (HS.out.at0) 3 rfl
     go_wp2_with fail
     clear hc74
     obtain ⟨t75, HA76, H⟩ := bind_some H
     refine (plan_within.calls a44 1 65536 t75 _ ⟨Sep.start _⟩ HA76).mono ?_
     rintro e_ w77 ⟨rfl, hS⟩
     replace HS : Aside0 (Sep (fps []) w [b1 g45 a41 a42 a43 a44] w77) := ⟨HS.out.call hS⟩
     clear hS
     by_cases c78 : t75 = true
     ·replace H := if_yes c78 H
      have c78b0 : t75 = true := c78
      have c78b1 : (!t75) = false := by rw [c78b0]; rfl
      clear c78
      by_cases c81 : (wrap64 (a41 * a42)) ≤ 4194304
      ·replace H := if_yes c81 H
       have c81b0 : decide ((wrap64 (a41 * a42)) ≤ 4194304) = true := decide_eq_true c81
       clear c81
       have hc79 : w77.cell? ⟨g45, 0, none⟩ = some (.int .i64 a41) := blk_cellv (HS.out.at0) 0 rfl
       have hc80 : w77.cell? ⟨g45, 1, none⟩ = some (.int .i64 a42) := blk_cellv (HS.out.at0) 1 rfl
       replace HS : Aside0 (Sep (fps []) w [] w77) := ⟨HS.out.sub (.cons _ .slnil)⟩
       go_wp2_with fail
       clear hc79 hc80
       go_ret
       rw [← some_eq H]
       exact ⟨(by first | rfl | (simp [IntKind.wrap_u32]; done)), HS.out⟩
      ·replace H := if_no c81 H
       have c81b0 : decide ((wrap64 (a41 * a42)) ≤ 4194304) = false := decide_eq_false c81
       clear c81
       have hc79 : w77.cell? ⟨g45, 0, none⟩ = some (.int .i64 a41) := blk_cellv (HS.out.at0) 0 rfl
       have hc80 : w77.cell? ⟨g45, 1, none⟩ = some (.int .i64 a42) := blk_cellv (HS.out.at0) 1 rfl
       replace HS : Aside0 (Sep (fps []) w [] w77) := ⟨HS.out.sub (.cons _ .slnil)⟩
       go_wp2_with fail
       clear hc79 hc80
       go_ret
       rw [← some_eq H]
       exact ⟨(by first | rfl | (simp [IntKind.wrap_u32]; done)), HS.out⟩
     ·replace H := if_no c78 H
      have c78b0 : t75 = false := by simpa using c78
      have c78b1 : (!t75) = true := by rw [c78b0]; rfl
      clear c78
      replace HS : Aside0 (Sep (fps []) w [] w77) := ⟨HS.out.sub (.cons _ .slnil)⟩
      go_wp2_with fail
      go_ret
      rw [← some_eq H]
      exact ⟨(by first | rfl | (simp [IntKind.wrap_u32]; done)), HS.out⟩
    ·replace H := if_no c73 H
     have c73b0 : t70 = false := by simpa using c73
     have c73b1 : (!t70) = true := by rw [c73b0]; rfl
     clear c73
     replace HS : Aside0 (Sep (fps []) w [] w72) := ⟨HS.out.sub (.cons _ .slnil)⟩
     go_wp2_with fail
     go_ret
     rw [← some_eq H]
     exact ⟨(by first | rfl | (simp [IntKind.wrap_u32]; done)), HS.out⟩
   ·replace H := if_no c68 H
    have c68b0 : t65 = false := by simpa using c68
    have c68b1 : (!t65) = true := by rw [c68b0]; rfl
    clear c68
    replace HS : Aside0 (Sep (fps []) w [] w67) := ⟨HS.out.sub (.cons _ .slnil)⟩
    go_wp2_with fail
    go_ret
    rw [← some_eq H]
    exact ⟨(by first | rfl | (simp [IntKind.wrap_u32]; done)), HS.out⟩
  ·replace H := if_no c63 H
   have c63b0 : t60 = false := by simpa using c63
   have c63b1 : (!t60) = true := by rw [c63b0]; rfl
   clear c63
   replace HS : Aside0 (Sep (fps []) w [] w62) := ⟨HS.out.sub (.cons _ .slnil)⟩
   go_wp2_with fail
   go_ret
   rw [← some_eq H]
   exact ⟨(by first | rfl | (simp [IntKind.wrap_u32]; done)), HS.out⟩

set_option maxHeartbeats 30000000 in
set_option maxRecDepth 100000 in
theorem ratio_counts.calls (a00 : Int) (r : Int) (w : World)   (HS : Aside0 (Sep (fps []) w [] w)) (H : Aside0 (ratio_counts.f a00 = some r)) :
    Calls Try.prog 116 #[.int .i64 a00] w fun e w' => e = .returned (.int .i64 r) ∧ Sep (fps []) w [] w' := by
  unfold ratio_counts.f at H
  go_enter Try.func116, Try.ntmps116
  go_wp2_with fail
  obtain ⟨t00, HA00, H⟩ := bind_some H
  refine (ratio_Clamp.calls a00 0 1125899906842624 t00 _ ⟨Sep.start _⟩ HA00).mono ?_
  rintro e_ w00 ⟨rfl, hS⟩
  replace HS : Aside0 (Sep (fps []) w [] w00) := ⟨HS.out.call hS⟩
  clear hS
  go_wp2_with fail
  go_ret
  rw [← some_eq H]
  exact ⟨(by first | rfl | (simp [IntKind.wrap_u32]; done)), HS.out⟩

set_option maxHeartbeats 30000000 in
set_option maxRecDepth 100000 in
theorem ratio_zero.calls (a00 : Int) (r : Bool) (w : World)   (HS : Aside0 (Sep (fps []) w [] w)) (H : Aside0 (ratio_zero.f a00 = some r)) :
    Calls Try.prog 118 #[.int .i64 a00] w fun e w' => e = .returned (.bool r) ∧ Sep (fps []) w [] w' := by
  unfold ratio_zero.f at H
  go_enter Try.func118, Try.ntmps118
  go_wp2_with fail
  obtain ⟨t00, HA00, H⟩ := bind_some H
  refine (ratio_counts.calls a00 t00 _ ⟨Sep.start _⟩ HA00).mono ?_
  rintro e_ w00 ⟨rfl, hS⟩
  replace HS : Aside0 (Sep (fps []) w [] w00) := ⟨HS.out.call hS⟩
  clear hS
  go_wp2_with fail
  go_ret
  rw [← some_eq H]
  exact ⟨(by first | rfl | (simp [IntKind.wrap_u32]; done)), HS.out⟩

set_option maxHeartbeats 30000000 in
set_option maxRecDepth 100000 in
theorem slices_IndexFunc_int_int_F118.calls (k : Nat) (l99 : List Int) (A00 : Option Addr) (n00 : Nat) (r : Int) (w : World) (HR00 : Aside0 (Rd (Kd.int .i64) (fps []) w A00 l99.length l99))  (HS : Aside0 (Sep (fps []) w [] w)) (H : Aside0 (slices_IndexFunc_int_int_F118.f k l99 = some r)) :
    Calls Try.prog 124 #[.slice A00 l99.length n00, .func (.func 118) #[] #[]] w fun e w' => e = .returned (.int .i64 r) ∧ Sep (fps []) w [] w' := by
  unfold slices_IndexFunc_int_int_F118.f at H
  go_enter Try.func124, Try.ntmps124
  go_wp2_with fail
  obtain ⟨o00, AL00, H⟩ := bind_some H
  go_loopg [8] k (fun kq v8 wc => ∃ (x00 : Int), v8 = .int .i64 x00 ∧ Aside0 (slices_IndexFunc_int_int_F118.lo0 kq l99 x00 = some o00) ∧ Aside0 (Sep (fps []) w [] wc))
  case atStart => exact ⟨(0), (by first | rfl | (simp [IntKind.wrap_u32]; done)), AL00, ⟨HS.out⟩⟩
  case round =>
    clear AL00 HS
    obtain ⟨x00, rfl, AL00, HS⟩ := hrel
    obtain ⟨w00, rfl⟩ : ∃ x : World, x = wr := ⟨_, rfl⟩
    cases gk with
    | zero => exact absurd AL00.out (by simp [slices_IndexFunc_int_int_F118.lo0])
    | succ k00 =>
      have AL0 := AL00.out
      rw [slices_IndexFunc_int_int_F118.lo0] at AL0
      clear AL00
      have AL00 := Aside0.mk AL0
      clear AL0
      by_cases c00 : x00 < (l99.length : Int)
      ·replace AL00 := if_yes c00 AL00
       have c00b0 : decide (x00 < (l99.length : Int)) = true := decide_eq_true c00
       clear c00
       by_cases c01 : 0 ≤ x00
       ·replace AL00 := if_yes c01 AL00
        have c01b0 : decide (0 ≤ x00) = true := decide_eq_true c01
        have c01p : (0 ≤ x00) = True := eq_true c01
        clear c01
        have ip00 : (x00 < (l99.length : Int)) = True := eq_true (of_decide_eq_true c00b0)
        obtain ⟨hx00a, hx00e, hx00⟩ := Kd.at_int (Rd.read (fun _ _ _ _ h => h) HR00.out HS.out.fr) x00 (of_decide_eq_true c01b0) (of_decide_eq_true c00b0); cases hx00e
        go_wp2_with fail
        clear hx00
        obtain ⟨t00, HA00, AL00⟩ := bind_some AL00
        refine (ratio_zero.calls (rd l99 x00) t00 _ ⟨Sep.start _⟩ HA00).mono ?_
        rintro e_ w01 ⟨rfl, hS⟩
        replace HS : Aside0 (Sep (fps []) w [] w01) := ⟨HS.out.call hS⟩
        clear hS
        by_cases c02 : t00 = true
        ·replace AL00 := if_yes c02 AL00
         have c02b0 : t00 = true := c02
         have c02b1 : (!t00) = false := by rw [c02b0]; rfl
         clear c02
         go_wp2_with fail
         have ho := some_eq AL00
         subst ho
         have H := lp_ret H
         go_ret
         rw [← some_eq H]
         exact ⟨(by first | rfl | (simp [IntKind.wrap_u32]; done)), HS.out⟩
        ·replace AL00 := if_no c02 AL00
         have c02b0 : t00 = false := by simpa using c02
         have c02b1 : (!t00) = true := by rw [c02b0]; rfl
         clear c02
         go_wp2_with fail
         go_roundg k00
         case measure => exact Nat.lt_succ_self _
         case rel => exact ⟨(wrap64 (x00 + 1)), (by first | rfl | (simp [IntKind.wrap_u32]; done)), Aside0.mk AL00.out, ⟨HS.out⟩⟩
       ·replace AL00 := if_no c01 AL00
        have c01b0 : decide (0 ≤ x00) = false := decide_eq_false c01
        clear c01
        exact (none_no AL00).elim
      ·replace AL00 := if_no c00 AL00
       have c00b0 : decide (x00 < (l99.length : Int)) = false := decide_eq_false c00
       clear c00
       have ho := some_eq AL00
       subst ho
       clear AL00
       have H := lp_out H
       go_wp2_with fail
       go_ret
       rw [← some_eq H]
       exact ⟨(by first | rfl | (simp [IntKind.wrap_u32]; done)), HS.out⟩

set_option maxHeartbeats 30000000 in
set_option maxRecDepth 100000 in
theorem slices_ContainsFunc_int_int_F118.calls (k : Nat) (l95 : List Int) (A96 : Option Addr) (n97 : Nat) (r : Bool) (w : World) (HR98 : Aside0 (Rd (Kd.int .i64) (fps []) w A96 l95.length l95))  (HS : Aside0 (Sep (fps []) w [] w)) (H : Aside0 (slices_ContainsFunc_int_int_F118.f k l95 = some r)) :
    Calls Try.prog 117 #[.slice A96 l95.length n97, .func (.func 118) #[] #[]] w fun e w' => e = .returned (.bool r) ∧ Sep (fps []) w [] w' := by
  unfold slices_ContainsFunc_int_int_F118.f at H
  go_enter Try.func117, Try.ntmps117
  go_wp2_with fail
  obtain ⟨t00, HA00, H⟩ := bind_some H
  refine (slices_IndexFunc_int_int_F118.calls _ l95 A96 n97 t00 _ ⟨Rd.pass (l := []) (by decide) (fun _ _ _ _ h => h) HR98.out HS.out⟩ ⟨Sep.start _⟩ HA00).mono ?_
  rintro e_ w00 ⟨rfl, hS⟩
  replace HS : Aside0 (Sep (fps []) w [] w00) := ⟨HS.out.call hS⟩
  clear hS
  go_wp2_with fail
  go_ret
  rw [← some_eq H]
  exact ⟨(by first | rfl | (simp [IntKind.wrap_u32]; done)), HS.out⟩

set_option maxHeartbeats 30000000 in
set_option maxRecDepth 100000 in
theorem ratio_Mul.calls (k : Nat) (l91 : List Int) (A92 : Option Addr) (n93 : Nat) (r : Int) (w : World) (HR94 : Aside0 (Rd (Kd.int .i64) (fps []) w A92 l91.length l91))  (HS : Aside0 (Sep (fps []) w [] w)) (H : Aside0 (ratio_Mul.f k l91 = some r)) :
    Calls Try.prog 107 #[.slice A92 l91.length n93] w fun e w' => e = .returned (.int .i64 r) ∧ Sep (fps []) w [] w' := by
  unfold ratio_Mul.f at H
  go_enter Try.func107, Try.ntmps107
  go_wp2_with fail
  obtain ⟨t00, HA00, H⟩ := bind_some H
  refine (slices_ContainsFunc_int_int_F118.calls _ l91 A92 n93 t00 _ ⟨Rd.pass (l := []) (by decide) (fun _ _ _ _ h => h) HR94.out HS.out⟩ ⟨Sep.start _⟩ HA00).mono ?_
  rintro e_ w00 ⟨rfl, hS⟩
  replace HS : Aside0 (Sep (fps []) w [] w00) := ⟨HS.out.call hS⟩
  clear hS
  by_cases c00 : t00 = true
  ·replace H := if_yes c00 H
   have c00b0 : t00 = true := c00
   have c00b1 : (!t00) = false := by rw [c00b0]; rfl
   clear c00
   go_wp2_with fail
   go_ret
   rw [← some_eq H]
   exact ⟨(by first | rfl | (simp [IntKind.wrap_u32]; done)), HS.out⟩
  ·replace H := if_no c00 H
   have c00b0 : t00 = false := by simpa using c00
   have c00b1 : (!t00) = true := by rw [c00b0]; rfl
   clear c00
   go_wp2_with fail
   obtain ⟨o00, AL00, H⟩ := bind_some H
   go_loopg [3, 11] k (fun kq v3 v11 wc => ∃ (x00 : Int) (x01 : Int), v3 = .int .i64 x00 ∧ v11 = .int .i64 x01 ∧ Aside0 (ratio_Mul.lo0 kq l91 x00 x01 = some o00) ∧ Aside0 (Sep (fps []) w [] wc))
   case atStart => exact ⟨(1), (0), (by first | rfl | (simp [IntKind.wrap_u32]; done)), (by first | rfl | (simp [IntKind.wrap_u32]; done)), AL00, ⟨HS.out⟩⟩
   case round =>
     clear AL00 HS
     obtain ⟨x00, x01, rfl, rfl, AL00, HS⟩ := hrel
     obtain ⟨w01, rfl⟩ : ∃ x : World, x = wr := ⟨_, rfl⟩
     cases gk with
     | zero => exact absurd AL00.out (by simp [ratio_Mul.lo0])
     | succ k00 =>
       have AL0 := AL00.out
       rw [ratio_Mul.lo0] at AL0
       clear AL00
       have AL00 := Aside0.mk AL0
       clear AL0
       by_cases c01 : x01 < (l91.length : Int)
       ·replace AL00 := if_yes c01 AL00
        have c01b0 : decide (x01 < (l91.length : Int)) = true := decide_eq_true c01
        clear c01
        by_cases c02 : 0 ≤ x01
        ·replace AL00 := if_yes c02 AL00
         have c02b0 : decide (0 ≤ x01) = true := decide_eq_true c02
         have c02p : (0 ≤ x01) = True := eq_true c02
         clear c02
         have ip00 : (x01 < (l91.length : Int)) = True := eq_true (of_decide_eq_true c01b0)
         obtain ⟨hx00a, hx00e, hx00⟩ := Kd.at_int (Rd.read (fun _ _ _ _ h => h) HR94.out HS.out.fr) x01 (of_decide_eq_true c02b0) (of_decide_eq_true c01b0); cases hx00e
         go_wp2_with fail
         clear hx00
         obtain ⟨t01, HA01, AL00⟩ := bind_some AL00
         refine (ratio_counts.calls (rd l91 x01) t01 _ ⟨Sep.start _⟩ HA01).mono ?_
         rintro e_ w02 ⟨rfl, hS⟩
         replace HS : Aside0 (Sep (fps []) w [] w02) := ⟨HS.out.call hS⟩
         clear hS
         by_cases c03 : t01 = 0
         ·replace AL00 := if_yes c03 AL00
          have c03b0 : (t01 == 0) = true := beq_iff_eq.mpr c03
          have c03b1 : (t01 != 0) = false := bne_eq_false_iff_eq.mpr c03
          exact (none_no AL00).elim
         ·replace AL00 := if_no c03 AL00
          have c03b0 : (t01 == 0) = false := beq_eq_false_iff_ne.mpr c03
          have c03b1 : (t01 != 0) = true := bne_iff_ne.mpr c03
          by_cases c04 : x00 ≤ (wrap64 (Int.tdiv (1125899906842624 : Int) t01))
          ·replace AL00 := if_yes c04 AL00
           have c04b0 : decide (x00 ≤ (wrap64 (Int.tdiv (1125899906842624 : Int) t01))) = true := decide_eq_true c04
           clear c04
           skip
           go_wp2_with fail
           clear c03
           go_roundg k00
           case measure => exact Nat.lt_succ_self _
           case rel => exact ⟨(wrap64 (x00 * t01)), (wrap64 (x01 + 1)), (by first | rfl | (simp [IntKind.wrap_u32]; done)), (by first | rfl | (simp [IntKind.wrap_u32]; done)), Aside0.mk AL00.out, ⟨HS.out⟩⟩
          ·replace AL00 := if_no c04 AL00
           have c04b0 : decide (x00 ≤ (wrap64 (Int.tdiv (1125899906842624 : Int) t01))) = false := decide_eq_false c04
           clear c04
           skip
           go_wp2_with fail
           clear c03
           go_roundg k00
           case measure => exact Nat.lt_succ_self _
           case rel => exact ⟨(1125899906842624), (wrap64 (x01 + 1)), (by first | rfl | (simp [IntKind.wrap_u32]; done)), (by first | rfl | (simp [IntKind.wrap_u32]; done)), Aside0.mk AL00.out, ⟨HS.out⟩⟩
        ·replace AL00 := if_no c02 AL00
         have c02b0 : decide (0 ≤ x01) = false := decide_eq_false c02
         clear c02
         exact (none_no AL00).elim
       ·replace AL00 := if_no c01 AL00
        have c01b0 : decide (x01 < (l91.length : Int)) = false := decide_eq_false c01
        clear c01
        have ho := some_eq AL00
        subst ho
        clear AL00
        go_wp2_with fail
        go_ret
        rw [← some_eq H]
        exact ⟨(by first | rfl | (simp [IntKind.wrap_u32]; done)), HS.out⟩

set_option maxHeartbeats 30000000 in
set_option maxRecDepth 100000 in
theorem ratio_Add.calls (k : Nat) (l00 : List Int) (A00 : Option Addr) (n00 : Nat) (r : Int) (w : World) (HR00 : Aside0 (Rd (Kd.int .i64) (fps []) w A00 l00.length l00))  (HS : Aside0 (Sep (fps []) w [] w)) (H : Aside0 (ratio_Add.f k l00 = some r)) :
    Calls Try.prog 106 #[.slice A00 l00.length n00] w fun e w' => e = .returned (.int .i64 r) ∧ Sep (fps []) w [] w' := by
  unfold ratio_Add.f at H
  go_enter Try.func106, Try.ntmps106
  go_wp2_with fail
  obtain ⟨o00, AL00, H⟩ := bind_some H
  go_loopg [3, 8] k (fun kq v3 v8 wc => ∃ (x00 : Int) (x01 : Int), v3 = .int .i64 x00 ∧ v8 = .int .i64 x01 ∧ Aside0 (ratio_Add.lo0 kq l00 x00 x01 = some o00) ∧ Aside0 (Sep (fps []) w [] wc))
  case atStart => exact ⟨(0), (0), (by first | rfl | (simp [IntKind.wrap_u32]; done)), (by first | rfl | (simp [IntKind.wrap_u32]; done)), AL00, ⟨HS.out⟩⟩
  case round =>
    clear AL00 HS
    obtain ⟨x00, x01, rfl, rfl, AL00, HS⟩ := hrel
    obtain ⟨w00, rfl⟩ : ∃ x : World, x = wr := ⟨_, rfl⟩
    cases gk with
    | zero => exact absurd AL00.out (by simp [ratio_Add.lo0])
    | succ k00 =>
      have AL0 := AL00.out
      rw [ratio_Add.lo0] at AL0
      clear AL00
      have AL00 := Aside0.mk AL0
      clear AL0
      by_cases c00 : x01 < (l00.length : Int)
      ·replace AL00 := if_yes c00 AL00
       have c00b0 : decide (x01 < (l00.length : Int)) = true := decide_eq_true c00
       clear c00
       by_cases c01 : 0 ≤ x01
       ·replace AL00 := if_yes c01 AL00
        have c01b0 : decide (0 ≤ x01) = true := decide_eq_true c01
        have c01p : (0 ≤ x01) = True := eq_true c01
        clear c01
        have ip00 : (x01 < (l00.length : Int)) = True := eq_true (of_decide_eq_true c00b0)
        obtain ⟨hx00a, hx00e, hx00⟩ := Kd.at_int (Rd.read (fun _ _ _ _ h => h) HR00.out HS.out.fr) x01 (of_decide_eq_true c01b0) (of_decide_eq_true c00b0); cases hx00e
        go_wp2_with fail
        clear hx00
        obtain ⟨t00, HA00, AL00⟩ := bind_some AL00
        refine (ratio_counts.calls (rd l00 x01) t00 _ ⟨Sep.start _⟩ HA00).mono ?_
        rintro e_ w01 ⟨rfl, hS⟩
        replace HS : Aside0 (Sep (fps []) w [] w01) := ⟨HS.out.call hS⟩
        clear hS
        by_cases c02 : 1125899906842624 < (wrap64 (x00 + t00))
        ·replace AL00 := if_yes c02 AL00
         have c02b0 : decide (1125899906842624 < (wrap64 (x00 + t00))) = true := decide_eq_true c02
         skip
         go_wp2_with fail
         clear c02
         go_roundg k00
         case measure => exact Nat.lt_succ_self _
         case rel => exact ⟨(1125899906842624), (wrap64 (x01 + 1)), (by first | rfl | (simp [IntKind.wrap_u32]; done)), (by first | rfl | (simp [IntKind.wrap_u32]; done)), Aside0.mk AL00.out, ⟨HS.out⟩⟩
        ·replace AL00 := if_no c02 AL00
         have c02b0 : decide (1125899906842624 < (wrap64 (x00 + t00))) = false := decide_eq_false c02
         skip
         go_wp2_with fail
         clear c02
         go_roundg k00
         case measure => exact Nat.lt_succ_self _
         case rel => exact ⟨(wrap64 (x00 + t00)), (wrap64 (x01 + 1)), (by first | rfl | (simp [IntKind.wrap_u32]; done)), (by first | rfl | (simp [IntKind.wrap_u32]; done)), Aside0.mk AL00.out, ⟨HS.out⟩⟩
       ·replace AL00 := if_no c01 AL00
        have c01b0 : decide (0 ≤ x01) = false := decide_eq_false c01
        clear c01
        exact (none_no AL00).elim
      ·replace AL00 := if_no c00 AL00
       have c00b0 : decide (x01 < (l00.length : Int)) = false := decide_eq_false c00
       clear c00
       have ho := some_eq AL00
       subst ho
       clear AL00
       go_wp2_with fail
       go_ret
       rw [← some_eq H]
       exact ⟨(by first | rfl | (simp [IntKind.wrap_u32]; done)), HS.out⟩

set_option maxHeartbeats 30000000 in
set_option maxRecDepth 100000 in
theorem ratio_by.calls (a00 : Int) (r : Int) (w : World)   (HS : Aside0 (Sep (fps []) w [] w)) (H : Aside0 (ratio_by.f a00 = some r)) :
    Calls Try.prog 119 #[.int .i64 a00] w fun e w' => e = .returned (.int .i64 r) ∧ Sep (fps []) w [] w' := by
  unfold ratio_by.f at H
  go_enter Try.func119, Try.ntmps119
  go_wp2_with fail
  obtain ⟨t00, HA00, H⟩ := bind_some H
  refine (ratio_counts.calls a00 t00 _ ⟨Sep.start _⟩ HA00).mono ?_
  rintro e_ w00 ⟨rfl, hS⟩
  replace HS : Aside0 (Sep (fps []) w [] w00) := ⟨HS.out.call hS⟩
  clear hS
  by_cases c00 : t00 < 1
  ·replace H := if_yes c00 H
   have c00b0 : decide (t00 < 1) = true := decide_eq_true c00
   skip
   go_wp2_with fail
   clear c00
   go_ret
   rw [← some_eq H]
   exact ⟨(by first | rfl | (simp [IntKind.wrap_u32]; done)), HS.out⟩
  ·replace H := if_no c00 H
   have c00b0 : decide (t00 < 1) = false := decide_eq_false c00
   skip
   go_wp2_with fail
   clear c00
   go_ret
   rw [← some_eq H]
   exact ⟨(by first | rfl | (simp [IntKind.wrap_u32]; done)), HS.out⟩

set_option maxHeartbeats 30000000 in
set_option maxRecDepth 100000 in
theorem ratio_Up.calls (a00 : Int) (a01 : Int) (r : Int) (w : World)   (HS : Aside0 (Sep (fps []) w [] w)) (H : Aside0 (ratio_Up.f a00 a01 = some r)) :
    Calls Try.prog 108 #[.int .i64 a00, .int .i64 a01] w fun e w' => e = .returned (.int .i64 r) ∧ Sep (fps []) w [] w' := by
  unfold ratio_Up.f at H
  go_enter Try.func108, Try.ntmps108
  go_wp2_with fail
  obtain ⟨t00, HA00, H⟩ := bind_some H
  refine (ratio_counts.calls a00 t00 _ ⟨Sep.start _⟩ HA00).mono ?_
  rintro e_ w00 ⟨rfl, hS⟩
  replace HS : Aside0 (Sep (fps []) w [] w00) := ⟨HS.out.call hS⟩
  clear hS
  go_wp2_with fail
  obtain ⟨t01, HA01, H⟩ := bind_some H
  refine (ratio_by.calls a01 t01 _ ⟨Sep.start _⟩ HA01).mono ?_
  rintro e_ w01 ⟨rfl, hS⟩
  replace HS : Aside0 (Sep (fps []) w [] w01) := ⟨HS.out.call hS⟩
  clear hS
  go_wp2_with fail
  obtain ⟨t02, HA02, H⟩ := bind_some H
  refine (ratio_by.calls a01 t02 _ ⟨Sep.start _⟩ HA02).mono ?_
  rintro e_ w02 ⟨rfl, hS⟩
  replace HS : Aside0 (Sep (fps []) w [] w02) := ⟨HS.out.call hS⟩
  clear hS
  by_cases c00 : t02 = 0
  ·replace H := if_yes c00 H
   have c00b0 : (t02 == 0) = true := beq_iff_eq.mpr c00
   have c00b1 : (t02 != 0) = false := bne_eq_false_iff_eq.mpr c00
   exact (none_no H).elim
  ·replace H := if_no c00 H
   have c00b0 : (t02 == 0) = false := beq_eq_false_iff_ne.mpr c00
   have c00b1 : (t02 != 0) = true := bne_iff_ne.mpr c00
   skip
   go_wp2_with fail
   clear c00
   go_ret
   rw [← some_eq H]
   exact ⟨(by first | rfl | (simp [IntKind.wrap_u32]; done)), HS.out⟩

set_option maxHeartbeats 30000000 in
set_option maxRecDepth 100000 in
theorem plan_Of.calls (k : Nat) (a27 : Int) (a28 : Int) (a29 : Int) (a30 : Int) (r : Int × Int × Int × Int × Int × Int × Int × Int × Int) (w : World)   (HS : Aside0 (Sep (fps []) w [] w)) (H : Aside0 (plan_Of.f k a27 a28 a29 a30 = some r)) :
    Calls Try.prog 76 #[.agg #[.int .i64 a27, .int .i64 a28, .int .i64 a29, .int .i64 a30]] w fun e w' => e = .returned (.tuple #[.agg #[.int .i64 r.1, .int .i64 r.2.1, .int .i64 r.2.2.1, .int .i64 r.2.2.2.1, .int .i64 r.2.2.2.2.1, .int .i64 r.2.2.2.2.2.1, .int .i64 r.2.2.2.2.2.2.1, .int .i64 r.2.2.2.2.2.2.2.1], .int .i64 r.2.2.2.2.2.2.2.2]) ∧ Sep (fps []) w [] w' := by
  unfold plan_Of.f at H
  go_enter Try.func76, Try.ntmps76
  go_wp2_with (first | ((with_reducible refine gate_dst (N := 1) rfl ?_); refine box_on ?hg (N := 1) ?hd (cs := #[.int .i64 a27, .int .i64 a28, .int .i64 a29, .int .i64 a30]) (t := 49) ?hr ?_; (case hd => rfl); (case hg => rfl); (case hr => first | (go_simp; done) | (go_simp; rfl)); intro g31 hg w32 hbox hb; replace HS : Aside0 (Sep (fps []) w [b1 g31 a27 a28 a29 a30] w32) := ⟨HS.out.box hg hbox hb⟩; clear hg hbox hb) | ((with_reducible refine gate_dst (N := 2) rfl ?_); refine box_on ?hg (N := 2) ?hd (cs := #[.int .i64 0, .int .i64 0, .int .i64 0, .int .i64 0, .int .i64 0, .int .i64 0, .int .i64 0, .int .i64 0]) (t := 120) ?hr ?_; (case hd => rfl); (case hg => rfl); (case hr => first | (go_simp; done) | (go_simp; rfl)); intro g34 hg w35 hbox hb; replace HS : Aside0 (Sep (fps []) w [b1 g31 a27 a28 a29 a30, b2 g34 0 0 0 0 0 0 0 0] w35) := ⟨HS.out.box hg hbox hb⟩; clear hg hbox hb; have hc37 : w35.cell? ⟨g31, 0, none⟩ = some (.int .i64 a27) := blk_cellv (HS.out.at0) 0 rfl; have hc38 : w35.cell? ⟨g31, 1, none⟩ = some (.int .i64 a28) := blk_cellv (HS.out.at0) 1 rfl; have hc39 : w35.cell? ⟨g31, 2, none⟩ = some (.int .i64 a29) := blk_cellv (HS.out.at0) 2 rfl; have hc40 : w35.cell? ⟨g31, 3, none⟩ = some (.int .i64 a30) := blk_cellv (HS.out.at0) 3 rfl))
  clear hc37 hc38 hc39 hc40
  obtain ⟨t82, HA83, H⟩ := bind_some H
  refine (plan_Check.calls a27 a28 a29 a30 t82 _ ⟨Sep.start _⟩ HA83).mono ?_
  rintro e_ w84 ⟨rfl, hS⟩
  replace HS : Aside0 (Sep (fps []) w [b1 g31 a27 a28 a29 a30, b2 g34 0 0 0 0 0 0 0 0] w84) := ⟨HS.out.call hS⟩
  clear hS
  by_cases c85 : t82 = 0
  ·replace H := if_yes c85 H
   have c85b0 : (t82 == 0) = true := beq_iff_eq.mpr c85
   have c85b1 : (t82 != 0) = false := bne_eq_false_iff_eq.mpr c85
   clear c85
   go_wp2_with fail
   obtain ⟨t00, HA00, H⟩ := bind_some H
   obtain ⟨t01, HA01, H⟩ := bind_some H
   go_cut [5] (fun v5 wc => ∃ (g88 : Nat) (g00 : Nat) (g01 : Nat), v5 = .pointer (some ⟨g01, 0, none⟩) ∧ Aside0 (Sep (fps []) w [b1 g31 a27 a28 a29 a30, b2 g34 0 0 0 0 0 0 0 0, b3 g88 a27 a28, b4 g00 24 a29 t00, b2 g01 t01 (wrap64 (a28 - 8)) 0 0 0 0 0 0] wc))
   case first =>
     go_wp2_with fail
     refine start_ (n := 16) (S := (fun w' => w'.cell? ⟨g31, 2, none⟩ = some (.int .i64 a29) ∧ w'.cell? ⟨g31, 0, none⟩ = some (.int .i64 a27) ∧ w'.cell? ⟨g31, 1, none⟩ = some (.int .i64 a28))) (ds := []) #[false, false, false, false, false, false, false, false, false, false, false, false, false, false, false, false] (by kernel_rfl) rfl rfl (⟨blk_cellv ((HS.out.drew).at0) 2 rfl, blk_cellv ((HS.out.drew).at0) 0 rfl, blk_cellv ((HS.out.drew).at0) 1 rfl⟩) (fun hHeld => ?_)
     have HS_ := Aside0.mk HS.out.drew
     clear HS
     generalize World.drew _ = w00 at HS_ hHeld ⊢
     have HS := HS_
     clear HS_
     refine pure_ (i := 0) (N := some 12) (v := ?_) (a' := ?_) #[true, false, false, false, false, false, false, false, false, false, false, false, false, false, false, false] rfl rfl (by kernel_rfl) (fun _ _ _ h => h) (Or.inl ⟨by rfl, ?_⟩) ?_ ?_
     rotate_left
     ·intro w'
      go_simp
      with_reducible rfl
     rotate_left
     ·simp only [Act.put, List.setIfInBounds_toArray, List.set_cons_zero, List.set_cons_succ, i64_w, i32_w]
      rfl
     refine pure_ (i := 2) (N := some 14) (v := ?_) (a' := ?_) #[true, false, true, false, false, false, false, false, false, false, false, false, false, false, false, false] rfl rfl (by kernel_rfl) (fun _ _ _ h => h) (Or.inl ⟨by rfl, ?_⟩) ?_ ?_
     rotate_left
     ·intro w'
      go_simp
      with_reducible rfl
     rotate_left
     ·simp only [Act.put, List.setIfInBounds_toArray, List.set_cons_zero, List.set_cons_succ, i64_w, i32_w]
      rfl
     refine pure_ (i := 4) (N := some 16) (v := ?_) (a' := ?_) #[true, false, true, false, true, false, false, false, false, false, false, false, false, false, false, false] rfl rfl (by kernel_rfl) (fun _ _ _ h => h) (Or.inl ⟨by rfl, ?_⟩) ?_ ?_
     rotate_left
     ·intro w'
      go_simp
      with_reducible rfl
     rotate_left
     ·simp only [Act.put, List.setIfInBounds_toArray, List.set_cons_zero, List.set_cons_succ, i64_w, i32_w]
      rfl
     refine pure_ (i := 10) (N := some 22) (v := ?_) (a' := ?_) #[true, false, true, false, true, false, false, false, false, false, true, false, false, false, false, false] rfl rfl (by kernel_rfl) (fun _ _ _ h => h) (Or.inl ⟨by rfl, ?_⟩) ?_ ?_
     rotate_left
     ·intro w'
      go_simp
      with_reducible rfl
     rotate_left
     ·simp only [Act.put, List.setIfInBounds_toArray, List.set_cons_zero, List.set_cons_succ, i64_w, i32_w]
      rfl
     refine take_ (i := 1) (N := some 13) (v := ?_) (a' := ?_) #[true, true, true, false, true, false, false, false, false, false, true, false, false, false, false, false] rfl rfl (by kernel_rfl) (fun _ _ _ h => h) (Or.inl ⟨by rfl, ?_⟩) hHeld ?_ ?_
     rotate_left
     ·rintro w' hS'
      obtain ⟨s0, s1, s2⟩ := hS'
      go_simp
      with_reducible rfl
     rotate_left
     ·simp only [Act.put, List.setIfInBounds_toArray, List.set_cons_zero, List.set_cons_succ, i64_w, i32_w]
      rfl
     refine take_ (i := 3) (N := some 15) (v := ?_) (a' := ?_) #[true, true, true, true, true, false, false, false, false, false, true, false, false, false, false, false] rfl rfl (by kernel_rfl) (fun _ _ _ h => h) (Or.inl ⟨by rfl, ?_⟩) hHeld ?_ ?_
     rotate_left
     ·rintro w' hS'
      obtain ⟨s0, s1, s2⟩ := hS'
      go_simp
      with_reducible rfl
     rotate_left
     ·simp only [Act.put, List.setIfInBounds_toArray, List.set_cons_zero, List.set_cons_succ, i64_w, i32_w]
      rfl
     refine take_ (i := 5) (N := some 17) (v := ?_) (a' := ?_) #[true, true, true, true, true, true, false, false, false, false, true, false, false, false, false, false] rfl rfl (by kernel_rfl) (fun _ _ _ h => h) (Or.inl ⟨by rfl, ?_⟩) hHeld ?_ ?_
     rotate_left
     ·rintro w' hS'
      obtain ⟨s0, s1, s2⟩ := hS'
      go_simp
      with_reducible rfl
     rotate_left
     ·simp only [Act.put, List.setIfInBounds_toArray, List.set_cons_zero, List.set_cons_succ, i64_w, i32_w]
      rfl
     refine take_ (i := 11) (N := some 23) (v := ?_) (a' := ?_) #[true, true, true, true, true, true, false, false, false, false, true, true, false, false, false, false] rfl rfl (by kernel_rfl) (fun _ _ _ h => h) (Or.inl ⟨by rfl, ?_⟩) hHeld ?_ ?_
     rotate_left
     ·rintro w' hS'
      obtain ⟨s0, s1, s2⟩ := hS'
      go_simp
      with_reducible rfl
     rotate_left
     ·simp only [Act.put, List.setIfInBounds_toArray, List.set_cons_zero, List.set_cons_succ, i64_w, i32_w]
      rfl
     refine pure_ (i := 12) (N := some 24) (v := ?_) (a' := ?_) #[true, true, true, true, true, true, false, false, false, false, true, true, true, false, false, false] rfl rfl (by kernel_rfl) (fun _ _ _ h => h) (Or.inl ⟨by rfl, ?_⟩) ?_ ?_
     rotate_left
     ·intro w'
      go_simp
      with_reducible rfl
     rotate_left
     ·simp only [Act.put, List.setIfInBounds_toArray, List.set_cons_zero, List.set_cons_succ, i64_w, i32_w]
      rfl
     refine two_ (i := 6) (j := 14) (Ni := some 18) (Nj := some 5) #[true, true, true, true, true, true, true, false, false, false, true, true, true, false, false, false] #[true, true, true, true, true, true, false, false, false, false, true, true, true, false, true, false] rfl rfl rfl rfl (by kernel_rfl) (by decide) (by decide) (fun K hK => ?_) (fun K hK => ?_)
     ·refine slice_step (n := 2) (by rfl) (N := 18) rfl (cs := #[.int .i64 a27, .int .i64 a28]) (t := 3) ?hr ?_
      case hr => first | (go_simp; done) | (go_simp; rfl)
      intro g02 hg w01 hbox hb
      replace HS : Aside0 (Sep (fps []) w [b1 g31 a27 a28 a29 a30, b2 g34 0 0 0 0 0 0 0 0, b3 g02 a27 a28] w01) := ⟨HS.out.box hg hbox hb⟩
      clear hg hbox hb
      refine hK.out _ _ (⟨blk_cellv (HS.out.at0) 2 rfl, blk_cellv (HS.out.at0) 0 rfl, blk_cellv (HS.out.at0) 1 rfl⟩) (fun hHeld => ?_)
      clear hK K
      refine norm_ (a' := ?_) ?_ ?_
      rotate_left
      ·show Act.put _ (some 18) _ = _
       simp only [Act.put, List.setIfInBounds_toArray, List.set_cons_zero, List.set_cons_succ, i64_w, i32_w]
       rfl
      refine two_ (i := 7) (j := 14) (Ni := some 19) (Nj := some 5) #[true, true, true, true, true, true, true, true, false, false, true, true, true, false, false, false] #[true, true, true, true, true, true, true, false, false, false, true, true, true, false, true, false] rfl rfl rfl rfl (by kernel_rfl) (by decide) (by decide) (fun K hK => ?_) (fun K hK => ?_)
      ·refine goes_ Try.func107 (by kernel_rfl) rfl #[.slice (some ⟨g02, 0, none⟩) 2 2] (by rfl) rfl rfl (by (try simp only [List.map_toArray, List.map_cons, List.map_nil]); first | done | rfl) ?_
       refine (ratio_Mul.calls _ [a27, a28] (some ⟨g02, 0, none⟩) 2 t00 _ ⟨Rd.lit (l := []) (xs := [a27, a28]) HS.out 2 rfl (by simp)⟩ ⟨Sep.start _⟩ HA00).mono ?_
       rintro e_ w02 ⟨rfl, hS⟩
       replace HS : Aside0 (Sep (fps []) w [b1 g31 a27 a28 a29 a30, b2 g34 0 0 0 0 0 0 0 0, b3 g02 a27 a28] w02) := ⟨HS.out.call hS⟩
       clear hS
       refine ⟨_, rfl, ?_⟩
       refine hK.out _ _ (⟨blk_cellv (HS.out.at0) 2 rfl, blk_cellv (HS.out.at0) 0 rfl, blk_cellv (HS.out.at0) 1 rfl⟩) (fun hHeld => ?_)
       clear hK K
       refine norm_ (a' := ?_) ?_ ?_
       rotate_left
       ·show Act.put _ (some 19) _ = _
        simp only [Act.put, List.setIfInBounds_toArray, List.set_cons_zero, List.set_cons_succ, i64_w, i32_w]
        rfl
       refine two_ (i := 8) (j := 14) (Ni := some 20) (Nj := some 5) #[true, true, true, true, true, true, true, true, true, false, true, true, true, false, false, false] #[true, true, true, true, true, true, true, true, false, false, true, true, true, false, true, false] rfl rfl rfl rfl (by kernel_rfl) (by decide) (by decide) (fun K hK => ?_) (fun K hK => ?_)
       ·refine slice_step (n := 3) (by rfl) (N := 20) rfl (cs := #[.int .i64 24, .int .i64 a29, .int .i64 t00]) (t := 3) ?hr ?_
        case hr => first | (go_simp; done) | (go_simp; rfl)
        intro g03 hg w03 hbox hb
        replace HS : Aside0 (Sep (fps []) w [b1 g31 a27 a28 a29 a30, b2 g34 0 0 0 0 0 0 0 0, b3 g02 a27 a28, b4 g03 24 a29 t00] w03) := ⟨HS.out.box hg hbox hb⟩
        clear hg hbox hb
        refine hK.out _ _ (⟨blk_cellv (HS.out.at0) 2 rfl, blk_cellv (HS.out.at0) 0 rfl, blk_cellv (HS.out.at0) 1 rfl⟩) (fun hHeld => ?_)
        clear hK K
        refine norm_ (a' := ?_) ?_ ?_
        rotate_left
        ·show Act.put _ (some 20) _ = _
         simp only [Act.put, List.setIfInBounds_toArray, List.set_cons_zero, List.set_cons_succ, i64_w, i32_w]
         rfl
        refine two_ (i := 9) (j := 14) (Ni := some 21) (Nj := some 5) #[true, true, true, true, true, true, true, true, true, true, true, true, true, false, false, false] #[true, true, true, true, true, true, true, true, true, false, true, true, true, false, true, false] rfl rfl rfl rfl (by kernel_rfl) (by decide) (by decide) (fun K hK => ?_) (fun K hK => ?_)
        ·refine goes_ Try.func106 (by kernel_rfl) rfl #[.slice (some ⟨g03, 0, none⟩) 3 3] (by rfl) rfl rfl (by (try simp only [List.map_toArray, List.map_cons, List.map_nil]); first | done | rfl) ?_
         refine (ratio_Add.calls _ [24, a29, t00] (some ⟨g03, 0, none⟩) 3 t01 _ ⟨Rd.lit (l := []) (xs := [24, a29, t00]) HS.out 3 rfl (by simp)⟩ ⟨Sep.start _⟩ HA01).mono ?_
         rintro e_ w04 ⟨rfl, hS⟩
         replace HS : Aside0 (Sep (fps []) w [b1 g31 a27 a28 a29 a30, b2 g34 0 0 0 0 0 0 0 0, b3 g02 a27 a28, b4 g03 24 a29 t00] w04) := ⟨HS.out.call hS⟩
         clear hS
         refine ⟨_, rfl, ?_⟩
         refine hK.out _ _ (⟨blk_cellv (HS.out.at0) 2 rfl, blk_cellv (HS.out.at0) 0 rfl, blk_cellv (HS.out.at0) 1 rfl⟩) (fun hHeld => ?_)
         clear hK K
         refine norm_ (a' := ?_) ?_ ?_
         rotate_left
         ·show Act.put _ (some 21) _ = _
          simp only [Act.put, List.setIfInBounds_toArray, List.set_cons_zero, List.set_cons_succ, i64_w, i32_w]
          rfl
         refine pure_ (i := 13) (N := some 25) (v := ?_) (a' := ?_) #[true, true, true, true, true, true, true, true, true, true, true, true, true, true, false, false] rfl rfl (by kernel_rfl) (fun _ _ _ h => h) (Or.inl ⟨by rfl, ?_⟩) ?_ ?_
         rotate_left
         ·intro w'
          go_simp
          with_reducible rfl
         rotate_left
         ·simp only [Act.put, List.setIfInBounds_toArray, List.set_cons_zero, List.set_cons_succ, i64_w, i32_w]
          rfl
         refine one_ (i := 14) (N := some 5) #[true, true, true, true, true, true, true, true, true, true, true, true, true, true, true, false] rfl rfl (by kernel_rfl) (by decide) (fun K hK => ?_)
         refine box_step (by rfl) (N := 5) rfl (cs := #[.int .i64 0, .int .i64 0, .int .i64 0, .int .i64 0, .int .i64 0, .int .i64 0, .int .i64 0, .int .i64 0]) (t := 120) ?hr ?_
         case hr => first | (go_simp; done) | (go_simp; rfl)
         intro g04 hg w05 hbox hb
         replace HS : Aside0 (Sep (fps []) w [b1 g31 a27 a28 a29 a30, b2 g34 0 0 0 0 0 0 0 0, b3 g02 a27 a28, b4 g03 24 a29 t00, b2 g04 0 0 0 0 0 0 0 0] w05) := ⟨HS.out.box hg hbox hb⟩
         clear hg hbox hb
         refine hK.out _ _ (⟨blk_cellv (HS.out.at0) 2 rfl, blk_cellv (HS.out.at0) 0 rfl, blk_cellv (HS.out.at0) 1 rfl⟩) (fun hHeld => ?_)
         clear hK K
         refine norm_ (a' := ?_) ?_ ?_
         rotate_left
         ·show Act.put _ (some 5) _ = _
          simp only [Act.put, List.setIfInBounds_toArray, List.set_cons_zero, List.set_cons_succ, i64_w, i32_w]
          rfl
         refine one_ (i := 15) (N := none) #[true, true, true, true, true, true, true, true, true, true, true, true, true, true, true, true] rfl rfl (by kernel_rfl) (by decide) (fun K hK => ?_)
         have hc00 := blk_cellv (v := .int .i64 0) (HS.out.at4) 0 rfl
         have hz00 := blk_fz (HS.out.at4) 0
         have hc01 := blk_cellv (v := .int .i64 0) (HS.out.at4) 1 rfl
         have hz01 := blk_fz (HS.out.at4) 1
         have hc02 := blk_cellv (v := .int .i64 0) (HS.out.at4) 2 rfl
         have hz02 := blk_fz (HS.out.at4) 2
         have hc03 := blk_cellv (v := .int .i64 0) (HS.out.at4) 3 rfl
         have hz03 := blk_fz (HS.out.at4) 3
         have hc04 := blk_cellv (v := .int .i64 0) (HS.out.at4) 4 rfl
         have hz04 := blk_fz (HS.out.at4) 4
         have hc05 := blk_cellv (v := .int .i64 0) (HS.out.at4) 5 rfl
         have hz05 := blk_fz (HS.out.at4) 5
         have hc06 := blk_cellv (v := .int .i64 0) (HS.out.at4) 6 rfl
         have hz06 := blk_fz (HS.out.at4) 6
         have hc07 := blk_cellv (v := .int .i64 0) (HS.out.at4) 7 rfl
         have hz07 := blk_fz (HS.out.at4) 7
         refine store_step (w1 := (World.setCell (World.setCell (World.setCell (World.setCell (World.setCell (World.setCell (World.setCell (World.setCell w05 ⟨g04, 0, none⟩ (.int .i64 t01)) ⟨g04, 1, none⟩ (.int .i64 (wrap64 (a28 - 8)))) ⟨g04, 2, none⟩ (.int .i64 0)) ⟨g04, 3, none⟩ (.int .i64 0)) ⟨g04, 4, none⟩ (.int .i64 0)) ⟨g04, 5, none⟩ (.int .i64 0)) ⟨g04, 6, none⟩ (.int .i64 0)) ⟨g04, 7, none⟩ (.int .i64 0))) (by rfl) rfl ?hr ?_
         case hr => first | (go_simp; done) | (go_simp; rfl)
         clear hc00 hz00 hc01 hz01 hc02 hz02 hc03 hz03 hc04 hz04 hc05 hz05 hc06 hz06 hc07 hz07
         intro w06 hst
         replace HS : Aside0 (Sep (fps []) w [b1 g31 a27 a28 a29 a30, b2 g34 0 0 0 0 0 0 0 0, b3 g02 a27 a28, b4 g03 24 a29 t00, b2 g04 t01 (wrap64 (a28 - 8)) 0 0 0 0 0 0] w06) := ⟨by rw [hst]; exact HS.out.setAll (l1 := [b1 g31 a27 a28 a29 a30, b2 g34 0 0 0 0 0 0 0 0, b3 g02 a27 a28, b4 g03 24 a29 t00]) (l2 := []) [.int .i64 t01, .int .i64 (wrap64 (a28 - 8)), .int .i64 0, .int .i64 0, .int .i64 0, .int .i64 0, .int .i64 0, .int .i64 0] rfl⟩
         clear hst
         refine hK.out _ _ (⟨blk_cellv (HS.out.at0) 2 rfl, blk_cellv (HS.out.at0) 0 rfl, blk_cellv (HS.out.at0) 1 rfl⟩) (fun hHeld => ?_)
         clear hK K
         refine done_ (by kernel_rfl) ?_
         go_wp2_with fail
         go_meet
         case rel => exact ⟨g02, g03, g04, (by first | rfl | (simp [IntKind.wrap_u32]; done)), ⟨(((((HS.out).front 4 (by simp)).front 4 (by simp)).front 4 (by simp)).front 4 (by simp)).front 4 (by simp)⟩⟩
        ·refine box_step (by rfl) (N := 5) rfl (cs := #[.int .i64 0, .int .i64 0, .int .i64 0, .int .i64 0, .int .i64 0, .int .i64 0, .int .i64 0, .int .i64 0]) (t := 120) ?hr ?_
         case hr => first | (go_simp; done) | (go_simp; rfl)
         intro g05 hg w07 hbox hb
         replace HS : Aside0 (Sep (fps []) w [b1 g31 a27 a28 a29 a30, b2 g34 0 0 0 0 0 0 0 0, b3 g02 a27 a28, b4 g03 24 a29 t00, b2 g05 0 0 0 0 0 0 0 0] w07) := ⟨HS.out.box hg hbox hb⟩
         clear hg hbox hb
         refine hK.out _ _ (⟨blk_cellv (HS.out.at0) 2 rfl, blk_cellv (HS.out.at0) 0 rfl, blk_cellv (HS.out.at0) 1 rfl⟩) (fun hHeld => ?_)
         clear hK K
         refine norm_ (a' := ?_) ?_ ?_
         rotate_left
         ·show Act.put _ (some 5) _ = _
          simp only [Act.put, List.setIfInBounds_toArray, List.set_cons_zero, List.set_cons_succ, i64_w, i32_w]
          rfl
         refine one_ (i := 9) (N := some 21) #[true, true, true, true, true, true, true, true, true, true, true, true, true, false, true, false] rfl rfl (by kernel_rfl) (by decide) (fun K hK => ?_)
         refine goes_ Try.func106 (by kernel_rfl) rfl #[.slice (some ⟨g03, 0, none⟩) 3 3] (by rfl) rfl rfl (by (try simp only [List.map_toArray, List.map_cons, List.map_nil]); first | done | rfl) ?_
         refine (ratio_Add.calls _ [24, a29, t00] (some ⟨g03, 0, none⟩) 3 t01 _ ⟨Rd.lit (l := []) (xs := [24, a29, t00]) HS.out 3 rfl (by simp)⟩ ⟨Sep.start _⟩ HA01).mono ?_
         rintro e_ w08 ⟨rfl, hS⟩
         replace HS : Aside0 (Sep (fps []) w [b1 g31 a27 a28 a29 a30, b2 g34 0 0 0 0 0 0 0 0, b3 g02 a27 a28, b4 g03 24 a29 t00, b2 g05 0 0 0 0 0 0 0 0] w08) := ⟨HS.out.call hS⟩
         clear hS
         refine ⟨_, rfl, ?_⟩
         refine hK.out _ _ (⟨blk_cellv (HS.out.at0) 2 rfl, blk_cellv (HS.out.at0) 0 rfl, blk_cellv (HS.out.at0) 1 rfl⟩) (fun hHeld => ?_)
         clear hK K
         refine norm_ (a' := ?_) ?_ ?_
         rotate_left
         ·show Act.put _ (some 21) _ = _
          simp only [Act.put, List.setIfInBounds_toArray, List.set_cons_zero, List.set_cons_succ, i64_w, i32_w]
          rfl
         refine pure_ (i := 13) (N := some 25) (v := ?_) (a' := ?_) #[true, true, true, true, true, true, true, true, true, true, true, true, true, true, true, false] rfl rfl (by kernel_rfl) (fun _ _ _ h => h) (Or.inl ⟨by rfl, ?_⟩) ?_ ?_
         rotate_left
         ·intro w'
          go_simp
          with_reducible rfl
         rotate_left
         ·simp only [Act.put, List.setIfInBounds_toArray, List.set_cons_zero, List.set_cons_succ, i64_w, i32_w]
          rfl
         refine one_ (i := 15) (N := none) #[true, true, true, true, true, true, true, true, true, true, true, true, true, true, true, true] rfl rfl (by kernel_rfl) (by decide) (fun K hK => ?_)
         have hc08 := blk_cellv (v := .int .i64 0) (HS.out.at4) 0 rfl
         have hz08 := blk_fz (HS.out.at4) 0
         have hc09 := blk_cellv (v := .int .i64 0) (HS.out.at4) 1 rfl
         have hz09 := blk_fz (HS.out.at4) 1
         have hc10 := blk_cellv (v := .int .i64 0) (HS.out.at4) 2 rfl
         have hz10 := blk_fz (HS.out.at4) 2
         have hc11 := blk_cellv (v := .int .i64 0) (HS.out.at4) 3 rfl
         have hz11 := blk_fz (HS.out.at4) 3
         have hc12 := blk_cellv (v := .int .i64 0) (HS.out.at4) 4 rfl
         have hz12 := blk_fz (HS.out.at4) 4
         have hc13 := blk_cellv (v := .int .i64 0) (HS.out.at4) 5 rfl
         have hz13 := blk_fz (HS.out.at4) 5
         have hc14 := blk_cellv (v := .int .i64 0) (HS.out.at4) 6 rfl
         have hz14 := blk_fz (HS.out.at4) 6
         have hc15 := blk_cellv (v := .int .i64 0) (HS.out.at4) 7 rfl
         have hz15 := blk_fz (HS.out.at4) 7
         refine store_step (w1 := (World.setCell (World.setCell (World.setCell (World.setCell (World.setCell (World.setCell (World.setCell (World.setCell w08 ⟨g05, 0, none⟩ (.int .i64 t01)) ⟨g05, 1, none⟩ (.int .i64 (wrap64 (a28 - 8)))) ⟨g05, 2, none⟩ (.int .i64 0)) ⟨g05, 3, none⟩ (.int .i64 0)) ⟨g05, 4, none⟩ (.int .i64 0)) ⟨g05, 5, none⟩ (.int .i64 0)) ⟨g05, 6, none⟩ (.int .i64 0)) ⟨g05, 7, none⟩ (.int .i64 0))) (by rfl) rfl ?hr ?_
         case hr => first | (go_simp; done) | (go_simp; rfl)
         clear hc08 hz08 hc09 hz09 hc10 hz10 hc11 hz11 hc12 hz12 hc13 hz13 hc14 hz14 hc15 hz15
         intro w09 hst
         replace HS : Aside0 (Sep (fps []) w [b1 g31 a27 a28 a29 a30, b2 g34 0 0 0 0 0 0 0 0, b3 g02 a27 a28, b4 g03 24 a29 t00, b2 g05 t01 (wrap64 (a28 - 8)) 0 0 0 0 0 0] w09) := ⟨by rw [hst]; exact HS.out.setAll (l1 := [b1 g31 a27 a28 a29 a30, b2 g34 0 0 0 0 0 0 0 0, b3 g02 a27 a28, b4 g03 24 a29 t00]) (l2 := []) [.int .i64 t01, .int .i64 (wrap64 (a28 - 8)), .int .i64 0, .int .i64 0, .int .i64 0, .int .i64 0, .int .i64 0, .int .i64 0] rfl⟩
         clear hst
         refine hK.out _ _ (⟨blk_cellv (HS.out.at0) 2 rfl, blk_cellv (HS.out.at0) 0 rfl, blk_cellv (HS.out.at0) 1 rfl⟩) (fun hHeld => ?_)
         clear hK K
         refine done_ (by kernel_rfl) ?_
         go_wp2_with fail
         go_meet
         case rel => exact ⟨g02, g03, g05, (by first | rfl | (simp [IntKind.wrap_u32]; done)), ⟨(((((HS.out).front 4 (by simp)).front 4 (by simp)).front 4 (by simp)).front 4 (by simp)).front 4 (by simp)⟩⟩
       ·refine box_step (by rfl) (N := 5) rfl (cs := #[.int .i64 0, .int .i64 0, .int .i64 0, .int .i64 0, .int .i64 0, .int .i64 0, .int .i64 0, .int .i64 0]) (t := 120) ?hr ?_
        case hr => first | (go_simp; done) | (go_simp; rfl)
        intro g06 hg w10 hbox hb
        replace HS : Aside0 (Sep (fps []) w [b1 g31 a27 a28 a29 a30, b2 g34 0 0 0 0 0 0 0 0, b3 g02 a27 a28, b2 g06 0 0 0 0 0 0 0 0] w10) := ⟨HS.out.box hg hbox hb⟩
        clear hg hbox hb
        refine hK.out _ _ (⟨blk_cellv (HS.out.at0) 2 rfl, blk_cellv (HS.out.at0) 0 rfl, blk_cellv (HS.out.at0) 1 rfl⟩) (fun hHeld => ?_)
        clear hK K
        refine norm_ (a' := ?_) ?_ ?_
        rotate_left
        ·show Act.put _ (some 5) _ = _
         simp only [Act.put, List.setIfInBounds_toArray, List.set_cons_zero, List.set_cons_succ, i64_w, i32_w]
         rfl
        refine one_ (i := 8) (N := some 20) #[true, true, true, true, true, true, true, true, true, false, true, true, true, false, true, false] rfl rfl (by kernel_rfl) (by decide) (fun K hK => ?_)
        refine slice_step (n := 3) (by rfl) (N := 20) rfl (cs := #[.int .i64 24, .int .i64 a29, .int .i64 t00]) (t := 3) ?hr ?_
        case hr => first | (go_simp; done) | (go_simp; rfl)
        intro g07 hg w11 hbox hb
        replace HS : Aside0 (Sep (fps []) w [b1 g31 a27 a28 a29 a30, b2 g34 0 0 0 0 0 0 0 0, b3 g02 a27 a28, b2 g06 0 0 0 0 0 0 0 0, b4 g07 24 a29 t00] w11) := ⟨HS.out.box hg hbox hb⟩
        clear hg hbox hb
        refine hK.out _ _ (⟨blk_cellv (HS.out.at0) 2 rfl, blk_cellv (HS.out.at0) 0 rfl, blk_cellv (HS.out.at0) 1 rfl⟩) (fun hHeld => ?_)
        clear hK K
        refine norm_ (a' := ?_) ?_ ?_
        rotate_left
        ·show Act.put _ (some 20) _ = _
         simp only [Act.put, List.setIfInBounds_toArray, List.set_cons_zero, List.set_cons_succ, i64_w, i32_w]
         rfl
        refine one_ (i := 9) (N := some 21) #[true, true, true, true, true, true, true, true, true, true, true, true, true, false, true, false] rfl rfl (by kernel_rfl) (by decide) (fun K hK => ?_)
        refine goes_ Try.func106 (by kernel_rfl) rfl #[.slice (some ⟨g07, 0, none⟩) 3 3] (by rfl) rfl rfl (by (try simp only [List.map_toArray, List.map_cons, List.map_nil]); first | done | rfl) ?_
        refine (ratio_Add.calls _ [24, a29, t00] (some ⟨g07, 0, none⟩) 3 t01 _ ⟨Rd.lit (l := []) (xs := [24, a29, t00]) HS.out 4 rfl (by simp)⟩ ⟨Sep.start _⟩ HA01).mono ?_
        rintro e_ w12 ⟨rfl, hS⟩
        replace HS : Aside0 (Sep (fps []) w [b1 g31 a27 a28 a29 a30, b2 g34 0 0 0 0 0 0 0 0, b3 g02 a27 a28, b2 g06 0 0 0 0 0 0 0 0, b4 g07 24 a29 t00] w12) := ⟨HS.out.call hS⟩
        clear hS
        refine ⟨_, rfl, ?_⟩
        refine hK.out _ _ (⟨blk_cellv (HS.out.at0) 2 rfl, blk_cellv (HS.out.at0) 0 rfl, blk_cellv (HS.out.at0) 1 rfl⟩) (fun hHeld => ?_)
        clear hK K
        refine norm_ (a' := ?_) ?_ ?_
        rotate_left
        ·show Act.put _ (some 21) _ = _
         simp only [Act.put, List.setIfInBounds_toArray, List.set_cons_zero, List.set_cons_succ, i64_w, i32_w]
         rfl
        refine pure_ (i := 13) (N := some 25) (v := ?_) (a' := ?_) #[true, true, true, true, true, true, true, true, true, true, true, true, true, true, true, false] rfl rfl (by kernel_rfl) (fun _ _ _ h => h) (Or.inl ⟨by rfl, ?_⟩) ?_ ?_
        rotate_left
        ·intro w'
         go_simp
         with_reducible rfl
        rotate_left
        ·simp only [Act.put, List.setIfInBounds_toArray, List.set_cons_zero, List.set_cons_succ, i64_w, i32_w]
         rfl
        refine one_ (i := 15) (N := none) #[true, true, true, true, true, true, true, true, true, true, true, true, true, true, true, true] rfl rfl (by kernel_rfl) (by decide) (fun K hK => ?_)
        have hc16 := blk_cellv (v := .int .i64 0) (HS.out.at3) 0 rfl
        have hz16 := blk_fz (HS.out.at3) 0
        have hc17 := blk_cellv (v := .int .i64 0) (HS.out.at3) 1 rfl
        have hz17 := blk_fz (HS.out.at3) 1
        have hc18 := blk_cellv (v := .int .i64 0) (HS.out.at3) 2 rfl
        have hz18 := blk_fz (HS.out.at3) 2
        have hc19 := blk_cellv (v := .int .i64 0) (HS.out.at3) 3 rfl
        have hz19 := blk_fz (HS.out.at3) 3
        have hc20 := blk_cellv (v := .int .i64 0) (HS.out.at3) 4 rfl
        have hz20 := blk_fz (HS.out.at3) 4
        have hc21 := blk_cellv (v := .int .i64 0) (HS.out.at3) 5 rfl
        have hz21 := blk_fz (HS.out.at3) 5
        have hc22 := blk_cellv (v := .int .i64 0) (HS.out.at3) 6 rfl
        have hz22 := blk_fz (HS.out.at3) 6
        have hc23 := blk_cellv (v := .int .i64 0) (HS.out.at3) 7 rfl
        have hz23 := blk_fz (HS.out.at3) 7
        refine store_step (w1 := (World.setCell (World.setCell (World.setCell (World.setCell (World.setCell (World.setCell (World.setCell (World.setCell w12 ⟨g06, 0, none⟩ (.int .i64 t01)) ⟨g06, 1, none⟩ (.int .i64 (wrap64 (a28 - 8)))) ⟨g06, 2, none⟩ (.int .i64 0)) ⟨g06, 3, none⟩ (.int .i64 0)) ⟨g06, 4, none⟩ (.int .i64 0)) ⟨g06, 5, none⟩ (.int .i64 0)) ⟨g06, 6, none⟩ (.int .i64 0)) ⟨g06, 7, none⟩ (.int .i64 0))) (by rfl) rfl ?hr ?_
        case hr => first | (go_simp; done) | (go_simp; rfl)
        clear hc16 hz16 hc17 hz17 hc18 hz18 hc19 hz19 hc20 hz20 hc21 hz21 hc22 hz22 hc23 hz23
        intro w13 hst
        replace HS : Aside0 (Sep (fps []) w [b1 g31 a27 a28 a29 a30, b2 g34 0 0 0 0 0 0 0 0, b3 g02 a27 a28, b2 g06 t01 (wrap64 (a28 - 8)) 0 0 0 0 0 0, b4 g07 24 a29 t00] w13) := ⟨by rw [hst]; exact HS.out.setAll (l1 := [b1 g31 a27 a28 a29 a30, b2 g34 0 0 0 0 0 0 0 0, b3 g02 a27 a28]) (l2 := [b4 g07 24 a29 t00]) [.int .i64 t01, .int .i64 (wrap64 (a28 - 8)), .int .i64 0, .int .i64 0, .int .i64 0, .int .i64 0, .int .i64 0, .int .i64 0] rfl⟩
        clear hst
        refine hK.out _ _ (⟨blk_cellv (HS.out.at0) 2 rfl, blk_cellv (HS.out.at0) 0 rfl, blk_cellv (HS.out.at0) 1 rfl⟩) (fun hHeld => ?_)
        clear hK K
        refine done_ (by kernel_rfl) ?_
        go_wp2_with fail
        go_meet
        case rel => exact ⟨g02, g07, g06, (by first | rfl | (simp [IntKind.wrap_u32]; done)), ⟨(((((HS.out).front 3 (by simp)).front 4 (by simp)).front 4 (by simp)).front 4 (by simp)).front 4 (by simp)⟩⟩
      ·refine box_step (by rfl) (N := 5) rfl (cs := #[.int .i64 0, .int .i64 0, .int .i64 0, .int .i64 0, .int .i64 0, .int .i64 0, .int .i64 0, .int .i64 0]) (t := 120) ?hr ?_
       case hr => first | (go_simp; done) | (go_simp; rfl)
       intro g08 hg w14 hbox hb
       replace HS : Aside0 (Sep (fps []) w [b1 g31 a27 a28 a29 a30, b2 g34 0 0 0 0 0 0 0 0, b3 g02 a27 a28, b2 g08 0 0 0 0 0 0 0 0] w14) := ⟨HS.out.box hg hbox hb⟩
       clear hg hbox hb
       refine hK.out _ _ (⟨blk_cellv (HS.out.at0) 2 rfl, blk_cellv (HS.out.at0) 0 rfl, blk_cellv (HS.out.at0) 1 rfl⟩) (fun hHeld => ?_)
       clear hK K
       refine norm_ (a' := ?_) ?_ ?_
       rotate_left
       ·show Act.put _ (some 5) _ = _
        simp only [Act.put, List.setIfInBounds_toArray, List.set_cons_zero, List.set_cons_succ, i64_w, i32_w]
        rfl
       refine one_ (i := 7) (N := some 19) #[true, true, true, true, true, true, true, true, false, false, true, true, true, false, true, false] rfl rfl (by kernel_rfl) (by decide) (fun K hK => ?_)
       refine goes_ Try.func107 (by kernel_rfl) rfl #[.slice (some ⟨g02, 0, none⟩) 2 2] (by rfl) rfl rfl (by (try simp only [List.map_toArray, List.map_cons, List.map_nil]); first | done | rfl) ?_
       refine (ratio_Mul.calls _ [a27, a28] (some ⟨g02, 0, none⟩) 2 t00 _ ⟨Rd.lit (l := []) (xs := [a27, a28]) HS.out 2 rfl (by simp)⟩ ⟨Sep.start _⟩ HA00).mono ?_
       rintro e_ w15 ⟨rfl, hS⟩
       replace HS : Aside0 (Sep (fps []) w [b1 g31 a27 a28 a29 a30, b2 g34 0 0 0 0 0 0 0 0, b3 g02 a27 a28, b2 g08 0 0 0 0 0 0 0 0] w15) := ⟨HS.out.call hS⟩
       clear hS
       refine ⟨_, rfl, ?_⟩
       refine hK.out _ _ (⟨blk_cellv (HS.out.at0) 2 rfl, blk_cellv (HS.out.at0) 0 rfl, blk_cellv (HS.out.at0) 1 rfl⟩) (fun hHeld => ?_)
       clear hK K
       refine norm_ (a' := ?_) ?_ ?_
       rotate_left
       ·show Act.put _ (some 19) _ = _
        simp only [Act.put, List.setIfInBounds_toArray, List.set_cons_zero, List.set_cons_succ, i64_w, i32_w]
        rfl
       refine one_ (i := 8) (N := some 20) #[true, true, true, true, true, true, true, true, true, false, true, true, true, false, true, false] rfl rfl (by kernel_rfl) (by decide) (fun K hK => ?_)
       refine slice_step (n := 3) (by rfl) (N := 20) rfl (cs := #[.int .i64 24, .int .i64 a29, .int .i64 t00]) (t := 3) ?hr ?_
       case hr => first | (go_simp; done) | (go_simp; rfl)
       intro g09 hg w16 hbox hb
       replace HS : Aside0 (Sep (fps []) w [b1 g31 a27 a28 a29 a30, b2 g34 0 0 0 0 0 0 0 0, b3 g02 a27 a28, b2 g08 0 0 0 0 0 0 0 0, b4 g09 24 a29 t00] w16) := ⟨HS.out.box hg hbox hb⟩
       clear hg hbox hb
       refine hK.out _ _ (⟨blk_cellv (HS.out.at0) 2 rfl, blk_cellv (HS.out.at0) 0 rfl, blk_cellv (HS.out.at0) 1 rfl⟩) (fun hHeld => ?_)
       clear hK K
       refine norm_ (a' := ?_) ?_ ?_
       rotate_left
       ·show Act.put _ (some 20) _ = _
        simp only [Act.put, List.setIfInBounds_toArray, List.set_cons_zero, List.set_cons_succ, i64_w, i32_w]
        rfl
       refine one_ (i := 9) (N := some 21) #[true, true, true, true, true, true, true, true, true, true, true, true, true, false, true, false] rfl rfl (by kernel_rfl) (by decide) (fun K hK => ?_)
       refine goes_ Try.func106 (by kernel_rfl) rfl #[.slice (some ⟨g09, 0, none⟩) 3 3] (by rfl) rfl rfl (by (try simp only [List.map_toArray, List.map_cons, List.map_nil]); first | done | rfl) ?_
       refine (ratio_Add.calls _ [24, a29, t00] (some ⟨g09, 0, none⟩) 3 t01 _ ⟨Rd.lit (l := []) (xs := [24, a29, t00]) HS.out 4 rfl (by simp)⟩ ⟨Sep.start _⟩ HA01).mono ?_
       rintro e_ w17 ⟨rfl, hS⟩
       replace HS : Aside0 (Sep (fps []) w [b1 g31 a27 a28 a29 a30, b2 g34 0 0 0 0 0 0 0 0, b3 g02 a27 a28, b2 g08 0 0 0 0 0 0 0 0, b4 g09 24 a29 t00] w17) := ⟨HS.out.call hS⟩
       clear hS
       refine ⟨_, rfl, ?_⟩
       refine hK.out _ _ (⟨blk_cellv (HS.out.at0) 2 rfl, blk_cellv (HS.out.at0) 0 rfl, blk_cellv (HS.out.at0) 1 rfl⟩) (fun hHeld => ?_)
       clear hK K
       refine norm_ (a' := ?_) ?_ ?_
       rotate_left
       ·show Act.put _ (some 21) _ = _
        simp only [Act.put, List.setIfInBounds_toArray, List.set_cons_zero, List.set_cons_succ, i64_w, i32_w]
        rfl
       refine pure_ (i := 13) (N := some 25) (v := ?_) (a' := ?_) #[true, true, true, true, true, true, true, true, true, true, true, true, true, true, true, false] rfl rfl (by kernel_rfl) (fun _ _ _ h => h) (Or.inl ⟨by rfl, ?_⟩) ?_ ?_
       rotate_left
       ·intro w'
        go_simp
        with_reducible rfl
       rotate_left
       ·simp only [Act.put, List.setIfInBounds_toArray, List.set_cons_zero, List.set_cons_succ, i64_w, i32_w]
        rfl
       refine one_ (i := 15) (N := none) #[true, true, true, true, true, true, true, true, true, true, true, true, true, true, true, true] rfl rfl (by kernel_rfl) (by decide) (fun K hK => ?_)
       have hc24 := blk_cellv (v := .int .i64 0) (HS.out.at3) 0 rfl
       have hz24 := blk_fz (HS.out.at3) 0
       have hc25 := blk_cellv (v := .int .i64 0) (HS.out.at3) 1 rfl
       have hz25 := blk_fz (HS.out.at3) 1
       have hc26 := blk_cellv (v := .int .i64 0) (HS.out.at3) 2 rfl
       have hz26 := blk_fz (HS.out.at3) 2
       have hc27 := blk_cellv (v := .int .i64 0) (HS.out.at3) 3 rfl
       have hz27 := blk_fz (HS.out.at3) 3
       have hc28 := blk_cellv (v := .int .i64 0) (HS.out.at3) 4 rfl
       have hz28 := blk_fz (HS.out.at3) 4
       have hc29 := blk_cellv (v := .int .i64 0) (HS.out.at3) 5 rfl
       have hz29 := blk_fz (HS.out.at3) 5
       have hc30 := blk_cellv (v := .int .i64 0) (HS.out.at3) 6 rfl
       have hz30 := blk_fz (HS.out.at3) 6
       have hc31 := blk_cellv (v := .int .i64 0) (HS.out.at3) 7 rfl
       have hz31 := blk_fz (HS.out.at3) 7
       refine store_step (w1 := (World.setCell (World.setCell (World.setCell (World.setCell (World.setCell (World.setCell (World.setCell (World.setCell w17 ⟨g08, 0, none⟩ (.int .i64 t01)) ⟨g08, 1, none⟩ (.int .i64 (wrap64 (a28 - 8)))) ⟨g08, 2, none⟩ (.int .i64 0)) ⟨g08, 3, none⟩ (.int .i64 0)) ⟨g08, 4, none⟩ (.int .i64 0)) ⟨g08, 5, none⟩ (.int .i64 0)) ⟨g08, 6, none⟩ (.int .i64 0)) ⟨g08, 7, none⟩ (.int .i64 0))) (by rfl) rfl ?hr ?_
       case hr => first | (go_simp; done) | (go_simp; rfl)
       clear hc24 hz24 hc25 hz25 hc26 hz26 hc27 hz27 hc28 hz28 hc29 hz29 hc30 hz30 hc31 hz31
       intro w18 hst
       replace HS : Aside0 (Sep (fps []) w [b1 g31 a27 a28 a29 a30, b2 g34 0 0 0 0 0 0 0 0, b3 g02 a27 a28, b2 g08 t01 (wrap64 (a28 - 8)) 0 0 0 0 0 0, b4 g09 24 a29 t00] w18) := ⟨by rw [hst]; exact HS.out.setAll (l1 := [b1 g31 a27 a28 a29 a30, b2 g34 0 0 0 0 0 0 0 0, b3 g02 a27 a28]) (l2 := [b4 g09 24 a29 t00]) [.int .i64 t01, .int .i64 (wrap64 (a28 - 8)), .int .i64 0, .int .i64 0, .int .i64 0, .int .i64 0, .int .i64 0, .int .i64 0] rfl⟩
       clear hst
       refine hK.out _ _ (⟨blk_cellv (HS.out.at0) 2 rfl, blk_cellv (HS.out.at0) 0 rfl, blk_cellv (HS.out.at0) 1 rfl⟩) (fun hHeld => ?_)
       clear hK K
       refine done_ (by kernel_rfl) ?_
       go_wp2_with fail
       go_meet
       case rel => exact ⟨g02, g09, g08, (by first | rfl | (simp [IntKind.wrap_u32]; done)), ⟨(((((HS.out).front 3 (by simp)).front 4 (by simp)).front 4 (by simp)).front 4 (by simp)).front 4 (by simp)⟩⟩
     ·refine box_step (by rfl) (N := 5) rfl (cs := #[.int .i64 0, .int .i64 0, .int .i64 0, .int .i64 0, .int .i64 0, .int .i64 0, .int .i64 0, .int .i64 0]) (t := 120) ?hr ?_
      case hr => first | (go_simp; done) | (go_simp; rfl)
      intro g10 hg w19 hbox hb
      replace HS : Aside0 (Sep (fps []) w [b1 g31 a27 a28 a29 a30, b2 g34 0 0 0 0 0 0 0 0, b2 g10 0 0 0 0 0 0 0 0] w19) := ⟨HS.out.box hg hbox hb⟩
      clear hg hbox hb
      refine hK.out _ _ (⟨blk_cellv (HS.out.at0) 2 rfl, blk_cellv (HS.out.at0) 0 rfl, blk_cellv (HS.out.at0) 1 rfl⟩) (fun hHeld => ?_)
      clear hK K
      refine norm_ (a' := ?_) ?_ ?_
      rotate_left
      ·show Act.put _ (some 5) _ = _
       simp only [Act.put, List.setIfInBounds_toArray, List.set_cons_zero, List.set_cons_succ, i64_w, i32_w]
       rfl
      refine one_ (i := 6) (N := some 18) #[true, true, true, true, true, true, true, false, false, false, true, true, true, false, true, false] rfl rfl (by kernel_rfl) (by decide) (fun K hK => ?_)
      refine slice_step (n := 2) (by rfl) (N := 18) rfl (cs := #[.int .i64 a27, .int .i64 a28]) (t := 3) ?hr ?_
      case hr => first | (go_simp; done) | (go_simp; rfl)
      intro g11 hg w20 hbox hb
      replace HS : Aside0 (Sep (fps []) w [b1 g31 a27 a28 a29 a30, b2 g34 0 0 0 0 0 0 0 0, b2 g10 0 0 0 0 0 0 0 0, b3 g11 a27 a28] w20) := ⟨HS.out.box hg hbox hb⟩
      clear hg hbox hb
      refine hK.out _ _ (⟨blk_cellv (HS.out.at0) 2 rfl, blk_cellv (HS.out.at0) 0 rfl, blk_cellv (HS.out.at0) 1 rfl⟩) (fun hHeld => ?_)
      clear hK K
      refine norm_ (a' := ?_) ?_ ?_
      rotate_left
      ·show Act.put _ (some 18) _ = _
       simp only [Act.put, List.setIfInBounds_toArray, List.set_cons_zero, List.set_cons_succ, i64_w, i32_w]
       rfl
      refine one_ (i := 7) (N := some 19) #[true, true, true, true, true, true, true, true, false, false, true, true, true, false, true, false] rfl rfl (by kernel_rfl) (by decide) (fun K hK => ?_)
      refine goes_ Try.func107 (by kernel_rfl) rfl #[.slice (some ⟨g11, 0, none⟩) 2 2] (by rfl) rfl rfl (by (try simp only [List.map_toArray, List.map_cons, List.map_nil]); first | done | rfl) ?_
      refine (ratio_Mul.calls _ [a27, a28] (some ⟨g11, 0, none⟩) 2 t00 _ ⟨Rd.lit (l := []) (xs := [a27, a28]) HS.out 3 rfl (by simp)⟩ ⟨Sep.start _⟩ HA00).mono ?_
      rintro e_ w21 ⟨rfl, hS⟩
      replace HS : Aside0 (Sep (fps []) w [b1 g31 a27 a28 a29 a30, b2 g34 0 0 0 0 0 0 0 0, b2 g10 0 0 0 0 0 0 0 0, b3 g11 a27 a28] w21) := ⟨HS.out.call hS⟩
      clear hS
      refine ⟨_, rfl, ?_⟩
      refine hK.out _ _ (⟨blk_cellv (HS.out.at0) 2 rfl, blk_cellv (HS.out.at0) 0 rfl, blk_cellv (HS.out.at0) 1 rfl⟩) (fun hHeld => ?_)
      clear hK K
      refine norm_ (a' := ?_) ?_ ?_
      rotate_left
      ·show Act.put _ (some 19) _ = _
       simp only [Act.put, List.setIfInBounds_toArray, List.set_cons_zero, List.set_cons_succ, i64_w, i32_w]
       rfl
      refine one_ (i := 8) (N := some 20) #[true, true, true, true, true, true, true, true, true, false, true, true, true, false, true, false] rfl rfl (by kernel_rfl) (by decide) (fun K hK => ?_)
      refine slice_step (n := 3) (by rfl) (N := 20) rfl (cs := #[.int .i64 24, .int .i64 a29, .int .i64 t00]) (t := 3) ?hr ?_
      case hr => first | (go_simp; done) | (go_simp; rfl)
      intro g12 hg w22 hbox hb
      replace HS : Aside0 (Sep (fps []) w [b1 g31 a27 a28 a29 a30, b2 g34 0 0 0 0 0 0 0 0, b2 g10 0 0 0 0 0 0 0 0, b3 g11 a27 a28, b4 g12 24 a29 t00] w22) := ⟨HS.out.box hg hbox hb⟩
      clear hg hbox hb
      refine hK.out _ _ (⟨blk_cellv (HS.out.at0) 2 rfl, blk_cellv (HS.out.at0) 0 rfl, blk_cellv (HS.out.at0) 1 rfl⟩) (fun hHeld => ?_)
      clear hK K
      refine norm_ (a' := ?_) ?_ ?_
      rotate_left
      ·show Act.put _ (some 20) _ = _
       simp only [Act.put, List.setIfInBounds_toArray, List.set_cons_zero, List.set_cons_succ, i64_w, i32_w]
       rfl
      refine one_ (i := 9) (N := some 21) #[true, true, true, true, true, true, true, true, true, true, true, true, true, false, true, false] rfl rfl (by kernel_rfl) (by decide) (fun K hK => ?_)
      refine goes_ Try.func106 (by kernel_rfl) rfl #[.slice (some ⟨g12, 0, none⟩) 3 3] (by rfl) rfl rfl (by (try simp only [List.map_toArray, List.map_cons, List.map_nil]); first | done | rfl) ?_
      refine (ratio_Add.calls _ [24, a29, t00] (some ⟨g12, 0, none⟩) 3 t01 _ ⟨Rd.lit (l := []) (xs := [24, a29, t00]) HS.out 4 rfl (by simp)⟩ ⟨Sep.start _⟩ HA01).mono ?_
      rintro e_ w23 ⟨rfl, hS⟩
      replace HS : Aside0 (Sep (fps []) w [b1 g31 a27 a28 a29 a30, b2 g34 0 0 0 0 0 0 0 0, b2 g10 0 0 0 0 0 0 0 0, b3 g11 a27 a28, b4 g12 24 a29 t00] w23) := ⟨HS.out.call hS⟩
      clear hS
      refine ⟨_, rfl, ?_⟩
      refine hK.out _ _ (⟨blk_cellv (HS.out.at0) 2 rfl, blk_cellv (HS.out.at0) 0 rfl, blk_cellv (HS.out.at0) 1 rfl⟩) (fun hHeld => ?_)
      clear hK K
      refine norm_ (a' := ?_) ?_ ?_
      rotate_left
      ·show Act.put _ (some 21) _ = _
       simp only [Act.put, List.setIfInBounds_toArray, List.set_cons_zero, List.set_cons_succ, i64_w, i32_w]
       rfl
      refine pure_ (i := 13) (N := some 25) (v := ?_) (a' := ?_) #[true, true, true, true, true, true, true, true, true, true, true, true, true, true, true, false] rfl rfl (by kernel_rfl) (fun _ _ _ h => h) (Or.inl ⟨by rfl, ?_⟩) ?_ ?_
      rotate_left
      ·intro w'
       go_simp
       with_reducible rfl
      rotate_left
      ·simp only [Act.put, List.setIfInBounds_toArray, List.set_cons_zero, List.set_cons_succ, i64_w, i32_w]
       rfl
      refine one_ (i := 15) (N := none) #[true, true, true, true, true, true, true, true, true, true, true, true, true, true, true, true] rfl rfl (by kernel_rfl) (by decide) (fun K hK => ?_)
      have hc32 := blk_cellv (v := .int .i64 0) (HS.out.at2) 0 rfl
      have hz32 := blk_fz (HS.out.at2) 0
      have hc33 := blk_cellv (v := .int .i64 0) (HS.out.at2) 1 rfl
      have hz33 := blk_fz (HS.out.at2) 1
      have hc34 := blk_cellv (v := .int .i64 0) (HS.out.at2) 2 rfl
      have hz34 := blk_fz (HS.out.at2) 2
      have hc35 := blk_cellv (v := .int .i64 0) (HS.out.at2) 3 rfl
      have hz35 := blk_fz (HS.out.at2) 3
      have hc36 := blk_cellv (v := .int .i64 0) (HS.out.at2) 4 rfl
      have hz36 := blk_fz (HS.out.at2) 4
      have hc41 := blk_cellv (v := .int .i64 0) (HS.out.at2) 5 rfl
      have hz37 := blk_fz (HS.out.at2) 5
      have hc42 := blk_cellv (v := .int .i64 0) (HS.out.at2) 6 rfl
      have hz38 := blk_fz (HS.out.at2) 6
      have hc43 := blk_cellv (v := .int .i64 0) (HS.out.at2) 7 rfl
      have hz39 := blk_fz (HS.out.at2) 7
      refine store_step (w1 := (World.setCell (World.setCell (World.setCell (World.setCell (World.setCell (World.setCell (World.setCell (World.setCell w23 ⟨g10, 0, none⟩ (.int .i64 t01)) ⟨g10, 1, none⟩ (.int .i64 (wrap64 (a28 - 8)))) ⟨g10, 2, none⟩ (.int .i64 0)) ⟨g10, 3, none⟩ (.int .i64 0)) ⟨g10, 4, none⟩ (.int .i64 0)) ⟨g10, 5, none⟩ (.int .i64 0)) ⟨g10, 6, none⟩ (.int .i64 0)) ⟨g10, 7, none⟩ (.int .i64 0))) (by rfl) rfl ?hr ?_
      case hr => first | (go_simp; done) | (go_simp; rfl)
      clear hc32 hz32 hc33 hz33 hc34 hz34 hc35 hz35 hc36 hz36 hc41 hz37 hc42 hz38 hc43 hz39
      intro w24 hst
      replace HS : Aside0 (Sep (fps []) w [b1 g31 a27 a28 a29 a30, b2 g34 0 0 0 0 0 0 0 0, b2 g10 t01 (wrap64 (a28 - 8)) 0 0 0 0 0 0, b3 g11 a27 a28, b4 g12 24 a29 t00] w24) := ⟨by rw [hst]; exact HS.out.setAll (l1 := [b1 g31 a27 a28 a29 a30, b2 g34 0 0 0 0 0 0 0 0]) (l2 := [b3 g11 a27 a28, b4 g12 24 a29 t00]) [.int .i64 t01, .int .i64 (wrap64 (a28 - 8)), .int .i64 0, .int .i64 0, .int .i64 0, .int .i64 0, .int .i64 0, .int .i64 0] rfl⟩
      clear hst
      refine hK.out _ _ (⟨blk_cellv (HS.out.at0) 2 rfl, blk_cellv (HS.out.at0) 0 rfl, blk_cellv (HS.out.at0) 1 rfl⟩) (fun hHeld => ?_)
      clear hK K
      refine done_ (by kernel_rfl) ?_
      go_wp2_with fail
      go_meet
      case rel => exact ⟨g11, g12, g10, (by first | rfl | (simp [IntKind.wrap_u32]; done)), ⟨(((((HS.out).front 2 (by simp)).front 4 (by simp)).front 4 (by simp)).front 4 (by simp)).front 4 (by simp)⟩⟩
   case rest =>
     clear HS
     obtain ⟨g88, g00, g01, rfl, HS⟩ := hcut
     obtain ⟨w25, rfl⟩ : ∃ x : World, x = wc := ⟨_, rfl⟩
     replace HS : Aside0 (Sep (fps []) w [b1 g31 a27 a28 a29 a30, b2 g34 0 0 0 0 0 0 0 0, b2 g01 t01 (wrap64 (a28 - 8)) 0 0 0 0 0 0] w25) := ⟨HS.out.sub (.cons_cons _ (.cons_cons _ (.cons _ (.cons _ (.cons_cons _ .slnil)))))⟩
     have hc44 : w25.cell? ⟨g01, 1, none⟩ = some (.int .i64 (wrap64 (a28 - 8))) := blk_cellv (HS.out.at2) 1 rfl
     have hc45 : w25.cell? ⟨g01, 2, none⟩ = some (.int .i64 0) := blk_cellv (HS.out.at2) 2 rfl
     have hz40 : w25.frozen? ⟨g01, 2, none⟩ = false := blk_fz (HS.out.at2) 2
     go_wp2_with (first | ((with_reducible refine gate_store (t := 3) (p := 29) rfl ?_); refine store_event (w1 := (World.setCell w25 ⟨g01, 2, none⟩ (.int .i64 (wrap64 ((wrap64 (a28 - 8)) + 1))))) rfl (t := 3) (p := 29) rfl rfl ?hr ?_; (case hr => first | (go_simp; done) | (go_simp; rfl)); intro w26 hst; clear hc44 hc45 hz40; have hq0 : Sep (fps []) w [b1 g31 a27 a28 a29 a30, b2 g34 0 0 0 0 0 0 0 0, b2 g01 t01 (wrap64 (a28 - 8)) (wrap64 ((wrap64 (a28 - 8)) + 1)) 0 0 0 0 0] (World.setCell w25 ⟨g01, 2, none⟩ (.int .i64 (wrap64 ((wrap64 (a28 - 8)) + 1)))) := (HS.out).set1 (l1 := [b1 g31 a27 a28 a29 a30, b2 g34 0 0 0 0 0 0 0 0]) (l2 := []) 2 (.int .i64 (wrap64 ((wrap64 (a28 - 8)) + 1))); replace HS : Aside0 (Sep (fps []) w [b1 g31 a27 a28 a29 a30, b2 g34 0 0 0 0 0 0 0 0, b2 g01 t01 (wrap64 (a28 - 8)) (wrap64 ((wrap64 (a28 - 8)) + 1)) 0 0 0 0 0] w26) := ⟨by rw [hst]; exact hq0⟩; clear hq0; clear hst; have hc46 : w26.cell? ⟨g01, 1, none⟩ = some (.int .i64 (wrap64 (a28 - 8))) := blk_cellv (HS.out.at2) 1 rfl; have hc47 : w26.cell? ⟨g31, 1, none⟩ = some (.int .i64 a28) := blk_cellv (HS.out.at0) 1 rfl) | ((with_reducible refine gate_dst (N := 35) rfl ?_); refine slice_on (n := 2) ?hg (N := 35) ?hd (cs := #[.int .i64 (wrap64 (a28 - 8)), .int .i64 (wrap64 (a28 - 1))]) (t := 3) ?hr ?_; (case hd => rfl); (case hg => rfl); (case hr => first | (go_simp; done) | (go_simp; rfl)); intro g13 hg w27 hbox hb; clear hc46 hc47; replace HS : Aside0 (Sep (fps []) w [b1 g31 a27 a28 a29 a30, b2 g34 0 0 0 0 0 0 0 0, b2 g01 t01 (wrap64 (a28 - 8)) (wrap64 ((wrap64 (a28 - 8)) + 1)) 0 0 0 0 0, b3 g13 (wrap64 (a28 - 8)) (wrap64 (a28 - 1))] w27) := ⟨HS.out.box hg hbox hb⟩; clear hg hbox hb))
     obtain ⟨t02, HA02, H⟩ := bind_some H
     refine (ratio_Mul.calls _ [wrap64 (a28 - 8), wrap64 (a28 - 1)] (some ⟨g13, 0, none⟩) 2 t02 _ ⟨Rd.lit (l := []) (xs := [wrap64 (a28 - 8), wrap64 (a28 - 1)]) HS.out 3 rfl (by simp)⟩ ⟨Sep.start _⟩ HA02).mono ?_
     rintro e_ w28 ⟨rfl, hS⟩
     replace HS : Aside0 (Sep (fps []) w [b1 g31 a27 a28 a29 a30, b2 g34 0 0 0 0 0 0 0 0, b2 g01 t01 (wrap64 (a28 - 8)) (wrap64 ((wrap64 (a28 - 8)) + 1)) 0 0 0 0 0, b3 g13 (wrap64 (a28 - 8)) (wrap64 (a28 - 1))] w28) := ⟨HS.out.call hS⟩
     clear hS
     have hc48 : w28.cell? ⟨g01, 3, none⟩ = some (.int .i64 0) := blk_cellv (HS.out.at2) 3 rfl
     have hz41 : w28.frozen? ⟨g01, 3, none⟩ = false := blk_fz (HS.out.at2) 3
     go_wp2_with (first | ((with_reducible refine gate_store (t := 3) (p := 37) rfl ?_); refine store_event (w1 := (World.setCell w28 ⟨g01, 3, none⟩ (.int .i64 t02))) rfl (t := 3) (p := 37) rfl rfl ?hr ?_; (case hr => first | (go_simp; done) | (go_simp; rfl)); intro w29 hst; clear hc48 hz41; have hq0 : Sep (fps []) w [b1 g31 a27 a28 a29 a30, b2 g34 0 0 0 0 0 0 0 0, b2 g01 t01 (wrap64 (a28 - 8)) (wrap64 ((wrap64 (a28 - 8)) + 1)) t02 0 0 0 0, b3 g13 (wrap64 (a28 - 8)) (wrap64 (a28 - 1))] (World.setCell w28 ⟨g01, 3, none⟩ (.int .i64 t02)) := (HS.out).set1 (l1 := [b1 g31 a27 a28 a29 a30, b2 g34 0 0 0 0 0 0 0 0]) (l2 := [b3 g13 (wrap64 (a28 - 8)) (wrap64 (a28 - 1))]) 3 (.int .i64 t02); replace HS : Aside0 (Sep (fps []) w [b1 g31 a27 a28 a29 a30, b2 g34 0 0 0 0 0 0 0 0, b2 g01 t01 (wrap64 (a28 - 8)) (wrap64 ((wrap64 (a28 - 8)) + 1)) t02 0 0 0 0, b3 g13 (wrap64 (a28 - 8)) (wrap64 (a28 - 1))] w29) := ⟨by rw [hst]; exact hq0⟩; clear hq0; clear hst; replace HS : Aside0 (Sep (fps []) w [b1 g31 a27 a28 a29 a30, b2 g34 0 0 0 0 0 0 0 0, b2 g01 t01 (wrap64 (a28 - 8)) (wrap64 ((wrap64 (a28 - 8)) + 1)) t02 0 0 0 0] w29) := ⟨HS.out.sub (.cons_cons _ (.cons_cons _ (.cons_cons _ (.cons _ .slnil))))⟩; have hc49 : w29.cell? ⟨g31, 0, none⟩ = some (.int .i64 a27) := blk_cellv (HS.out.at0) 0 rfl; have hc50 : w29.cell? ⟨g31, 1, none⟩ = some (.int .i64 a28) := blk_cellv (HS.out.at0) 1 rfl) | ((with_reducible refine gate_dst (N := 43) rfl ?_); refine slice_on (n := 2) ?hg (N := 43) ?hd (cs := #[.int .i64 a27, .int .i64 (wrap64 (a28 + 1))]) (t := 3) ?hr ?_; (case hd => rfl); (case hg => rfl); (case hr => first | (go_simp; done) | (go_simp; rfl)); intro g14 hg w30 hbox hb; clear hc49 hc50; replace HS : Aside0 (Sep (fps []) w [b1 g31 a27 a28 a29 a30, b2 g34 0 0 0 0 0 0 0 0, b2 g01 t01 (wrap64 (a28 - 8)) (wrap64 ((wrap64 (a28 - 8)) + 1)) t02 0 0 0 0, b3 g14 a27 (wrap64 (a28 + 1))] w30) := ⟨HS.out.box hg hbox hb⟩; clear hg hbox hb))
     obtain ⟨t03, HA03, H⟩ := bind_some H
     refine (ratio_Mul.calls _ [a27, wrap64 (a28 + 1)] (some ⟨g14, 0, none⟩) 2 t03 _ ⟨Rd.lit (l := []) (xs := [a27, wrap64 (a28 + 1)]) HS.out 3 rfl (by simp)⟩ ⟨Sep.start _⟩ HA03).mono ?_
     rintro e_ w31 ⟨rfl, hS⟩
     replace HS : Aside0 (Sep (fps []) w [b1 g31 a27 a28 a29 a30, b2 g34 0 0 0 0 0 0 0 0, b2 g01 t01 (wrap64 (a28 - 8)) (wrap64 ((wrap64 (a28 - 8)) + 1)) t02 0 0 0 0, b3 g14 a27 (wrap64 (a28 + 1))] w31) := ⟨HS.out.call hS⟩
     clear hS
     have hc51 : w31.cell? ⟨g01, 5, none⟩ = some (.int .i64 0) := blk_cellv (HS.out.at2) 5 rfl
     have hz42 : w31.frozen? ⟨g01, 5, none⟩ = false := blk_fz (HS.out.at2) 5
     go_wp2_with (first | ((with_reducible refine gate_store (t := 3) (p := 45) rfl ?_); refine store_event (w1 := (World.setCell w31 ⟨g01, 5, none⟩ (.int .i64 t03))) rfl (t := 3) (p := 45) rfl rfl ?hr ?_; (case hr => first | (go_simp; done) | (go_simp; rfl)); intro w33 hst; clear hc51 hz42; have hq0 : Sep (fps []) w [b1 g31 a27 a28 a29 a30, b2 g34 0 0 0 0 0 0 0 0, b2 g01 t01 (wrap64 (a28 - 8)) (wrap64 ((wrap64 (a28 - 8)) + 1)) t02 0 t03 0 0, b3 g14 a27 (wrap64 (a28 + 1))] (World.setCell w31 ⟨g01, 5, none⟩ (.int .i64 t03)) := (HS.out).set1 (l1 := [b1 g31 a27 a28 a29 a30, b2 g34 0 0 0 0 0 0 0 0]) (l2 := [b3 g14 a27 (wrap64 (a28 + 1))]) 5 (.int .i64 t03); replace HS : Aside0 (Sep (fps []) w [b1 g31 a27 a28 a29 a30, b2 g34 0 0 0 0 0 0 0 0, b2 g01 t01 (wrap64 (a28 - 8)) (wrap64 ((wrap64 (a28 - 8)) + 1)) t02 0 t03 0 0, b3 g14 a27 (wrap64 (a28 + 1))] w33) := ⟨by rw [hst]; exact hq0⟩; clear hq0; clear hst; replace HS : Aside0 (Sep (fps []) w [b1 g31 a27 a28 a29 a30, b2 g34 0 0 0 0 0 0 0 0, b2 g01 t01 (wrap64 (a28 - 8)) (wrap64 ((wrap64 (a28 - 8)) + 1)) t02 0 t03 0 0] w33) := ⟨HS.out.sub (.cons_cons _ (.cons_cons _ (.cons_cons _ (.cons _ .slnil))))⟩; have hc52 : w33.cell? ⟨g01, 5, none⟩ = some (.int .i64 t03) := blk_cellv (HS.out.at2) 5 rfl) | ((with_reducible refine gate_dst (N := 48) rfl ?_); refine slice_on (n := 2) ?hg (N := 48) ?hd (cs := #[.int .i64 3, .int .i64 t03]) (t := 3) ?hr ?_; (case hd => rfl); (case hg => rfl); (case hr => first | (go_simp; done) | (go_simp; rfl)); intro g15 hg w34 hbox hb; clear hc52; replace HS : Aside0 (Sep (fps []) w [b1 g31 a27 a28 a29 a30, b2 g34 0 0 0 0 0 0 0 0, b2 g01 t01 (wrap64 (a28 - 8)) (wrap64 ((wrap64 (a28 - 8)) + 1)) t02 0 t03 0 0, b3 g15 3 t03] w34) := ⟨HS.out.box hg hbox hb⟩; clear hg hbox hb))
     obtain ⟨t04, HA04, H⟩ := bind_some H
     refine (ratio_Mul.calls _ [3, t03] (some ⟨g15, 0, none⟩) 2 t04 _ ⟨Rd.lit (l := []) (xs := [3, t03]) HS.out 3 rfl (by simp)⟩ ⟨Sep.start _⟩ HA04).mono ?_
     rintro e_ w36 ⟨rfl, hS⟩
     replace HS : Aside0 (Sep (fps []) w [b1 g31 a27 a28 a29 a30, b2 g34 0 0 0 0 0 0 0 0, b2 g01 t01 (wrap64 (a28 - 8)) (wrap64 ((wrap64 (a28 - 8)) + 1)) t02 0 t03 0 0, b3 g15 3 t03] w36) := ⟨HS.out.call hS⟩
     clear hS
     go_wp2_with (first | ((with_reducible refine gate_dst (N := 50) rfl ?_); refine slice_on (n := 2) ?hg (N := 50) ?hd (cs := #[.int .i64 t04, .int .i64 4]) (t := 3) ?hr ?_; (case hd => rfl); (case hg => rfl); (case hr => first | (go_simp; done) | (go_simp; rfl)); intro g16 hg w37 hbox hb; replace HS : Aside0 (Sep (fps []) w [b1 g31 a27 a28 a29 a30, b2 g34 0 0 0 0 0 0 0 0, b2 g01 t01 (wrap64 (a28 - 8)) (wrap64 ((wrap64 (a28 - 8)) + 1)) t02 0 t03 0 0, b3 g15 3 t03, b3 g16 t04 4] w37) := ⟨HS.out.box hg hbox hb⟩; clear hg hbox hb))
     obtain ⟨t05, HA05, H⟩ := bind_some H
     refine (ratio_Add.calls _ [t04, 4] (some ⟨g16, 0, none⟩) 2 t05 _ ⟨Rd.lit (l := []) (xs := [t04, 4]) HS.out 4 rfl (by simp)⟩ ⟨Sep.start _⟩ HA05).mono ?_
     rintro e_ w38 ⟨rfl, hS⟩
     replace HS : Aside0 (Sep (fps []) w [b1 g31 a27 a28 a29 a30, b2 g34 0 0 0 0 0 0 0 0, b2 g01 t01 (wrap64 (a28 - 8)) (wrap64 ((wrap64 (a28 - 8)) + 1)) t02 0 t03 0 0, b3 g15 3 t03, b3 g16 t04 4] w38) := ⟨HS.out.call hS⟩
     clear hS
     have hc53 : w38.cell? ⟨g01, 4, none⟩ = some (.int .i64 0) := blk_cellv (HS.out.at2) 4 rfl
     have hz43 : w38.frozen? ⟨g01, 4, none⟩ = false := blk_fz (HS.out.at2) 4
     go_wp2_with (first | ((with_reducible refine gate_store (t := 3) (p := 52) rfl ?_); refine store_event (w1 := (World.setCell w38 ⟨g01, 4, none⟩ (.int .i64 t05))) rfl (t := 3) (p := 52) rfl rfl ?hr ?_; (case hr => first | (go_simp; done) | (go_simp; rfl)); intro w39 hst; clear hc53 hz43; have hq0 : Sep (fps []) w [b1 g31 a27 a28 a29 a30, b2 g34 0 0 0 0 0 0 0 0, b2 g01 t01 (wrap64 (a28 - 8)) (wrap64 ((wrap64 (a28 - 8)) + 1)) t02 t05 t03 0 0, b3 g15 3 t03, b3 g16 t04 4] (World.setCell w38 ⟨g01, 4, none⟩ (.int .i64 t05)) := (HS.out).set1 (l1 := [b1 g31 a27 a28 a29 a30, b2 g34 0 0 0 0 0 0 0 0]) (l2 := [b3 g15 3 t03, b3 g16 t04 4]) 4 (.int .i64 t05); replace HS : Aside0 (Sep (fps []) w [b1 g31 a27 a28 a29 a30, b2 g34 0 0 0 0 0 0 0 0, b2 g01 t01 (wrap64 (a28 - 8)) (wrap64 ((wrap64 (a28 - 8)) + 1)) t02 t05 t03 0 0, b3 g15 3 t03, b3 g16 t04 4] w39) := ⟨by rw [hst]; exact hq0⟩; clear hq0; clear hst; replace HS : Aside0 (Sep (fps []) w [b1 g31 a27 a28 a29 a30, b2 g34 0 0 0 0 0 0 0 0, b2 g01 t01 (wrap64 (a28 - 8)) (wrap64 ((wrap64 (a28 - 8)) + 1)) t02 t05 t03 0 0] w39) := ⟨HS.out.sub (.cons_cons _ (.cons_cons _ (.cons_cons _ (.cons _ (.cons _ .slnil)))))⟩))
     obtain ⟨t06, HA06, H⟩ := bind_some H
     obtain ⟨t07, HA07, H⟩ := bind_some H
     obtain ⟨t08, HA08, H⟩ := bind_some H
     obtain ⟨t09, HA09, H⟩ := bind_some H
     go_cut [] (fun wc => ∃ (g17 : Nat) (g18 : Nat) (g19 : Nat), Aside0 (Sep (fps []) w [b1 g31 a27 a28 a29 a30, b2 g34 0 0 0 0 0 0 0 0, b2 g01 t01 (wrap64 (a28 - 8)) (wrap64 ((wrap64 (a28 - 8)) + 1)) t02 t05 t03 t09 0, b3 g17 2 t06, b3 g18 2 (wrap64 ((wrap64 (a28 - 8)) + 1)), b3 g19 t07 t08] wc))
     case first =>
       go_wp2_with fail
       refine start_ (n := 15) (S := (fun w' => w'.cell? ⟨g01, 4, none⟩ = some (.int .i64 t05) ∧ w'.cell? ⟨g31, 3, none⟩ = some (.int .i64 a30) ∧ w'.cell? ⟨g01, 2, none⟩ = some (.int .i64 (wrap64 ((wrap64 (a28 - 8)) + 1))))) (ds := []) #[false, false, false, false, false, false, false, false, false, false, false, false, false, false, false] (by kernel_rfl) rfl rfl (⟨blk_cellv ((HS.out.drew).at2) 4 rfl, blk_cellv ((HS.out.drew).at0) 3 rfl, blk_cellv ((HS.out.drew).at2) 2 rfl⟩) (fun hHeld => ?_)
       have HS_ := Aside0.mk HS.out.drew
       clear HS
       generalize World.drew _ = w40 at HS_ hHeld ⊢
       have HS := HS_
       clear HS_
       refine pure_ (i := 0) (N := some 53) (v := ?_) (a' := ?_) #[true, false, false, false, false, false, false, false, false, false, false, false, false, false, false] rfl rfl (by kernel_rfl) (fun _ _ _ h => h) (Or.inl ⟨by rfl, ?_⟩) ?_ ?_
       rotate_left
       ·intro w'
        go_simp
        with_reducible rfl
       rotate_left
       ·simp only [Act.put, List.setIfInBounds_toArray, List.set_cons_zero, List.set_cons_succ, i64_w, i32_w]
        rfl
       refine pure_ (i := 2) (N := some 55) (v := ?_) (a' := ?_) #[true, false, true, false, false, false, false, false, false, false, false, false, false, false, false] rfl rfl (by kernel_rfl) (fun _ _ _ h => h) (Or.inl ⟨by rfl, ?_⟩) ?_ ?_
       rotate_left
       ·intro w'
        go_simp
        with_reducible rfl
       rotate_left
       ·simp only [Act.put, List.setIfInBounds_toArray, List.set_cons_zero, List.set_cons_succ, i64_w, i32_w]
        rfl
       refine pure_ (i := 7) (N := some 60) (v := ?_) (a' := ?_) #[true, false, true, false, false, false, false, true, false, false, false, false, false, false, false] rfl rfl (by kernel_rfl) (fun _ _ _ h => h) (Or.inl ⟨by rfl, ?_⟩) ?_ ?_
       rotate_left
       ·intro w'
        go_simp
        with_reducible rfl
       rotate_left
       ·simp only [Act.put, List.setIfInBounds_toArray, List.set_cons_zero, List.set_cons_succ, i64_w, i32_w]
        rfl
       refine take_ (i := 1) (N := some 54) (v := ?_) (a' := ?_) #[true, true, true, false, false, false, false, true, false, false, false, false, false, false, false] rfl rfl (by kernel_rfl) (fun _ _ _ h => h) (Or.inl ⟨by rfl, ?_⟩) hHeld ?_ ?_
       rotate_left
       ·rintro w' hS'
        obtain ⟨s0, s1, s2⟩ := hS'
        go_simp
        with_reducible rfl
       rotate_left
       ·simp only [Act.put, List.setIfInBounds_toArray, List.set_cons_zero, List.set_cons_succ, i64_w, i32_w]
        rfl
       refine take_ (i := 3) (N := some 56) (v := ?_) (a' := ?_) #[true, true, true, true, false, false, false, true, false, false, false, false, false, false, false] rfl rfl (by kernel_rfl) (fun _ _ _ h => h) (Or.inl ⟨by rfl, ?_⟩) hHeld ?_ ?_
       rotate_left
       ·rintro w' hS'
        obtain ⟨s0, s1, s2⟩ := hS'
        go_simp
        with_reducible rfl
       rotate_left
       ·simp only [Act.put, List.setIfInBounds_toArray, List.set_cons_zero, List.set_cons_succ, i64_w, i32_w]
        rfl
       refine take_ (i := 8) (N := some 61) (v := ?_) (a' := ?_) #[true, true, true, true, false, false, false, true, true, false, false, false, false, false, false] rfl rfl (by kernel_rfl) (fun _ _ _ h => h) (Or.inl ⟨by rfl, ?_⟩) hHeld ?_ ?_
       rotate_left
       ·rintro w' hS'
        obtain ⟨s0, s1, s2⟩ := hS'
        go_simp
        with_reducible rfl
       rotate_left
       ·simp only [Act.put, List.setIfInBounds_toArray, List.set_cons_zero, List.set_cons_succ, i64_w, i32_w]
        rfl
       refine two_ (i := 4) (j := 9) (Ni := some 57) (Nj := some 62) #[true, true, true, true, true, false, false, true, true, false, false, false, false, false, false] #[true, true, true, true, false, false, false, true, true, true, false, false, false, false, false] rfl rfl rfl rfl (by kernel_rfl) (by decide) (by decide) (fun K hK => ?_) (fun K hK => ?_)
       ·refine goes_ Try.func108 (by kernel_rfl) rfl #[.int .i64 t05, .int .i64 a30] (by rfl) rfl rfl (by (try simp only [List.map_toArray, List.map_cons, List.map_nil]); first | done | rfl) ?_
        refine (ratio_Up.calls t05 a30 t06 _ ⟨Sep.start _⟩ HA06).mono ?_
        rintro e_ w41 ⟨rfl, hS⟩
        replace HS : Aside0 (Sep (fps []) w [b1 g31 a27 a28 a29 a30, b2 g34 0 0 0 0 0 0 0 0, b2 g01 t01 (wrap64 (a28 - 8)) (wrap64 ((wrap64 (a28 - 8)) + 1)) t02 t05 t03 0 0] w41) := ⟨HS.out.call hS⟩
        clear hS
        refine ⟨_, rfl, ?_⟩
        refine hK.out _ _ (⟨blk_cellv (HS.out.at2) 4 rfl, blk_cellv (HS.out.at0) 3 rfl, blk_cellv (HS.out.at2) 2 rfl⟩) (fun hHeld => ?_)
        clear hK K
        refine norm_ (a' := ?_) ?_ ?_
        rotate_left
        ·show Act.put _ (some 57) _ = _
         simp only [Act.put, List.setIfInBounds_toArray, List.set_cons_zero, List.set_cons_succ, i64_w, i32_w]
         rfl
        refine two_ (i := 5) (j := 9) (Ni := some 58) (Nj := some 62) #[true, true, true, true, true, true, false, true, true, false, false, false, false, false, false] #[true, true, true, true, true, false, false, true, true, true, false, false, false, false, false] rfl rfl rfl rfl (by kernel_rfl) (by decide) (by decide) (fun K hK => ?_) (fun K hK => ?_)
        ·refine slice_step (n := 2) (by rfl) (N := 58) rfl (cs := #[.int .i64 2, .int .i64 t06]) (t := 3) ?hr ?_
         case hr => first | (go_simp; done) | (go_simp; rfl)
         intro g20 hg w42 hbox hb
         replace HS : Aside0 (Sep (fps []) w [b1 g31 a27 a28 a29 a30, b2 g34 0 0 0 0 0 0 0 0, b2 g01 t01 (wrap64 (a28 - 8)) (wrap64 ((wrap64 (a28 - 8)) + 1)) t02 t05 t03 0 0, b3 g20 2 t06] w42) := ⟨HS.out.box hg hbox hb⟩
         clear hg hbox hb
         refine hK.out _ _ (⟨blk_cellv (HS.out.at2) 4 rfl, blk_cellv (HS.out.at0) 3 rfl, blk_cellv (HS.out.at2) 2 rfl⟩) (fun hHeld => ?_)
         clear hK K
         refine norm_ (a' := ?_) ?_ ?_
         rotate_left
         ·show Act.put _ (some 58) _ = _
          simp only [Act.put, List.setIfInBounds_toArray, List.set_cons_zero, List.set_cons_succ, i64_w, i32_w]
          rfl
         refine two_ (i := 6) (j := 9) (Ni := some 59) (Nj := some 62) #[true, true, true, true, true, true, true, true, true, false, false, false, false, false, false] #[true, true, true, true, true, true, false, true, true, true, false, false, false, false, false] rfl rfl rfl rfl (by kernel_rfl) (by decide) (by decide) (fun K hK => ?_) (fun K hK => ?_)
         ·refine goes_ Try.func107 (by kernel_rfl) rfl #[.slice (some ⟨g20, 0, none⟩) 2 2] (by rfl) rfl rfl (by (try simp only [List.map_toArray, List.map_cons, List.map_nil]); first | done | rfl) ?_
          refine (ratio_Mul.calls _ [2, t06] (some ⟨g20, 0, none⟩) 2 t07 _ ⟨Rd.lit (l := []) (xs := [2, t06]) HS.out 3 rfl (by simp)⟩ ⟨Sep.start _⟩ HA07).mono ?_
          rintro e_ w43 ⟨rfl, hS⟩
          replace HS : Aside0 (Sep (fps []) w [b1 g31 a27 a28 a29 a30, b2 g34 0 0 0 0 0 0 0 0, b2 g01 t01 (wrap64 (a28 - 8)) (wrap64 ((wrap64 (a28 - 8)) + 1)) t02 t05 t03 0 0, b3 g20 2 t06] w43) := ⟨HS.out.call hS⟩
          clear hS
          refine ⟨_, rfl, ?_⟩
          refine hK.out _ _ (⟨blk_cellv (HS.out.at2) 4 rfl, blk_cellv (HS.out.at0) 3 rfl, blk_cellv (HS.out.at2) 2 rfl⟩) (fun hHeld => ?_)
          clear hK K
          refine norm_ (a' := ?_) ?_ ?_
          rotate_left
          ·show Act.put _ (some 59) _ = _
           simp only [Act.put, List.setIfInBounds_toArray, List.set_cons_zero, List.set_cons_succ, i64_w, i32_w]
           rfl
          refine one_ (i := 9) (N := some 62) #[true, true, true, true, true, true, true, true, true, true, false, false, false, false, false] rfl rfl (by kernel_rfl) (by decide) (fun K hK => ?_)
          refine slice_step (n := 2) (by rfl) (N := 62) rfl (cs := #[.int .i64 2, .int .i64 (wrap64 ((wrap64 (a28 - 8)) + 1))]) (t := 3) ?hr ?_
          case hr => first | (go_simp; done) | (go_simp; rfl)
          intro g21 hg w44 hbox hb
          replace HS : Aside0 (Sep (fps []) w [b1 g31 a27 a28 a29 a30, b2 g34 0 0 0 0 0 0 0 0, b2 g01 t01 (wrap64 (a28 - 8)) (wrap64 ((wrap64 (a28 - 8)) + 1)) t02 t05 t03 0 0, b3 g20 2 t06, b3 g21 2 (wrap64 ((wrap64 (a28 - 8)) + 1))] w44) := ⟨HS.out.box hg hbox hb⟩
          clear hg hbox hb
          refine hK.out _ _ (⟨blk_cellv (HS.out.at2) 4 rfl, blk_cellv (HS.out.at0) 3 rfl, blk_cellv (HS.out.at2) 2 rfl⟩) (fun hHeld => ?_)
          clear hK K
          refine norm_ (a' := ?_) ?_ ?_
          rotate_left
          ·show Act.put _ (some 62) _ = _
           simp only [Act.put, List.setIfInBounds_toArray, List.set_cons_zero, List.set_cons_succ, i64_w, i32_w]
           rfl
          refine one_ (i := 10) (N := some 63) #[true, true, true, true, true, true, true, true, true, true, true, false, false, false, false] rfl rfl (by kernel_rfl) (by decide) (fun K hK => ?_)
          refine goes_ Try.func107 (by kernel_rfl) rfl #[.slice (some ⟨g21, 0, none⟩) 2 2] (by rfl) rfl rfl (by (try simp only [List.map_toArray, List.map_cons, List.map_nil]); first | done | rfl) ?_
          refine (ratio_Mul.calls _ [2, wrap64 ((wrap64 (a28 - 8)) + 1)] (some ⟨g21, 0, none⟩) 2 t08 _ ⟨Rd.lit (l := []) (xs := [2, wrap64 ((wrap64 (a28 - 8)) + 1)]) HS.out 4 rfl (by simp)⟩ ⟨Sep.start _⟩ HA08).mono ?_
          rintro e_ w45 ⟨rfl, hS⟩
          replace HS : Aside0 (Sep (fps []) w [b1 g31 a27 a28 a29 a30, b2 g34 0 0 0 0 0 0 0 0, b2 g01 t01 (wrap64 (a28 - 8)) (wrap64 ((wrap64 (a28 - 8)) + 1)) t02 t05 t03 0 0, b3 g20 2 t06, b3 g21 2 (wrap64 ((wrap64 (a28 - 8)) + 1))] w45) := ⟨HS.out.call hS⟩
          clear hS
          refine ⟨_, rfl, ?_⟩
          refine hK.out _ _ (⟨blk_cellv (HS.out.at2) 4 rfl, blk_cellv (HS.out.at0) 3 rfl, blk_cellv (HS.out.at2) 2 rfl⟩) (fun hHeld => ?_)
          clear hK K
          refine norm_ (a' := ?_) ?_ ?_
          rotate_left
          ·show Act.put _ (some 63) _ = _
           simp only [Act.put, List.setIfInBounds_toArray, List.set_cons_zero, List.set_cons_succ, i64_w, i32_w]
           rfl
          refine one_ (i := 11) (N := some 64) #[true, true, true, true, true, true, true, true, true, true, true, true, false, false, false] rfl rfl (by kernel_rfl) (by decide) (fun K hK => ?_)
          refine slice_step (n := 2) (by rfl) (N := 64) rfl (cs := #[.int .i64 t07, .int .i64 t08]) (t := 3) ?hr ?_
          case hr => first | (go_simp; done) | (go_simp; rfl)
          intro g22 hg w46 hbox hb
          replace HS : Aside0 (Sep (fps []) w [b1 g31 a27 a28 a29 a30, b2 g34 0 0 0 0 0 0 0 0, b2 g01 t01 (wrap64 (a28 - 8)) (wrap64 ((wrap64 (a28 - 8)) + 1)) t02 t05 t03 0 0, b3 g20 2 t06, b3 g21 2 (wrap64 ((wrap64 (a28 - 8)) + 1)), b3 g22 t07 t08] w46) := ⟨HS.out.box hg hbox hb⟩
          clear hg hbox hb
          refine hK.out _ _ (⟨blk_cellv (HS.out.at2) 4 rfl, blk_cellv (HS.out.at0) 3 rfl, blk_cellv (HS.out.at2) 2 rfl⟩) (fun hHeld => ?_)
          clear hK K
          refine norm_ (a' := ?_) ?_ ?_
          rotate_left
          ·show Act.put _ (some 64) _ = _
           simp only [Act.put, List.setIfInBounds_toArray, List.set_cons_zero, List.set_cons_succ, i64_w, i32_w]
           rfl
          refine one_ (i := 12) (N := some 65) #[true, true, true, true, true, true, true, true, true, true, true, true, true, false, false] rfl rfl (by kernel_rfl) (by decide) (fun K hK => ?_)
          refine goes_ Try.func106 (by kernel_rfl) rfl #[.slice (some ⟨g22, 0, none⟩) 2 2] (by rfl) rfl rfl (by (try simp only [List.map_toArray, List.map_cons, List.map_nil]); first | done | rfl) ?_
          refine (ratio_Add.calls _ [t07, t08] (some ⟨g22, 0, none⟩) 2 t09 _ ⟨Rd.lit (l := []) (xs := [t07, t08]) HS.out 5 rfl (by simp)⟩ ⟨Sep.start _⟩ HA09).mono ?_
          rintro e_ w47 ⟨rfl, hS⟩
          replace HS : Aside0 (Sep (fps []) w [b1 g31 a27 a28 a29 a30, b2 g34 0 0 0 0 0 0 0 0, b2 g01 t01 (wrap64 (a28 - 8)) (wrap64 ((wrap64 (a28 - 8)) + 1)) t02 t05 t03 0 0, b3 g20 2 t06, b3 g21 2 (wrap64 ((wrap64 (a28 - 8)) + 1)), b3 g22 t07 t08] w47) := ⟨HS.out.call hS⟩
          clear hS
          refine ⟨_, rfl, ?_⟩
          refine hK.out _ _ (⟨blk_cellv (HS.out.at2) 4 rfl, blk_cellv (HS.out.at0) 3 rfl, blk_cellv (HS.out.at2) 2 rfl⟩) (fun hHeld => ?_)
          clear hK K
          refine norm_ (a' := ?_) ?_ ?_
          rotate_left
          ·show Act.put _ (some 65) _ = _
           simp only [Act.put, List.setIfInBounds_toArray, List.set_cons_zero, List.set_cons_succ, i64_w, i32_w]
           rfl
          refine pure_ (i := 13) (N := some 66) (v := ?_) (a' := ?_) #[true, true, true, true, true, true, true, true, true, true, true, true, true, true, false] rfl rfl (by kernel_rfl) (fun _ _ _ h => h) (Or.inl ⟨by rfl, ?_⟩) ?_ ?_
          rotate_left
          ·intro w'
           go_simp
           with_reducible rfl
          rotate_left
          ·simp only [Act.put, List.setIfInBounds_toArray, List.set_cons_zero, List.set_cons_succ, i64_w, i32_w]
           rfl
          refine one_ (i := 14) (N := none) #[true, true, true, true, true, true, true, true, true, true, true, true, true, true, true] rfl rfl (by kernel_rfl) (by decide) (fun K hK => ?_)
          have hc54 := blk_cellv (v := .int .i64 0) (HS.out.at2) 6 rfl
          have hz44 := blk_fz (HS.out.at2) 6
          refine store_step (w1 := (World.setCell w47 ⟨g01, 6, none⟩ (.int .i64 t09))) (by rfl) rfl ?hr ?_
          case hr => first | (go_simp; done) | (go_simp; rfl)
          clear hc54 hz44
          intro w48 hst
          have hq0 : Sep (fps []) w [b1 g31 a27 a28 a29 a30, b2 g34 0 0 0 0 0 0 0 0, b2 g01 t01 (wrap64 (a28 - 8)) (wrap64 ((wrap64 (a28 - 8)) + 1)) t02 t05 t03 t09 0, b3 g20 2 t06, b3 g21 2 (wrap64 ((wrap64 (a28 - 8)) + 1)), b3 g22 t07 t08] (World.setCell w47 ⟨g01, 6, none⟩ (.int .i64 t09)) := (HS.out).set1 (l1 := [b1 g31 a27 a28 a29 a30, b2 g34 0 0 0 0 0 0 0 0]) (l2 := [b3 g20 2 t06, b3 g21 2 (wrap64 ((wrap64 (a28 - 8)) + 1)), b3 g22 t07 t08]) 6 (.int .i64 t09)
          have HS_ : Aside0 (Sep (fps []) w [b1 g31 a27 a28 a29 a30, b2 g34 0 0 0 0 0 0 0 0, b2 g01 t01 (wrap64 (a28 - 8)) (wrap64 ((wrap64 (a28 - 8)) + 1)) t02 t05 t03 t09 0, b3 g20 2 t06, b3 g21 2 (wrap64 ((wrap64 (a28 - 8)) + 1)), b3 g22 t07 t08] w48) := ⟨by rw [hst]; exact hq0⟩
          clear hq0
          clear HS hst
          have HS := HS_
          clear HS_
          refine hK.out _ _ (⟨blk_cellv (HS.out.at2) 4 rfl, blk_cellv (HS.out.at0) 3 rfl, blk_cellv (HS.out.at2) 2 rfl⟩) (fun hHeld => ?_)
          clear hK K
          refine done_ (by kernel_rfl) ?_
          go_wp2_with fail
          go_meet
          case rel => exact ⟨g20, g21, g22, ⟨((((((HS.out).front 5 (by simp)).front 5 (by simp)).front 5 (by simp)).front 5 (by simp)).front 5 (by simp)).front 5 (by simp)⟩⟩
         ·refine slice_step (n := 2) (by rfl) (N := 62) rfl (cs := #[.int .i64 2, .int .i64 (wrap64 ((wrap64 (a28 - 8)) + 1))]) (t := 3) ?hr ?_
          case hr => first | (go_simp; done) | (go_simp; rfl)
          intro g23 hg w49 hbox hb
          replace HS : Aside0 (Sep (fps []) w [b1 g31 a27 a28 a29 a30, b2 g34 0 0 0 0 0 0 0 0, b2 g01 t01 (wrap64 (a28 - 8)) (wrap64 ((wrap64 (a28 - 8)) + 1)) t02 t05 t03 0 0, b3 g20 2 t06, b3 g23 2 (wrap64 ((wrap64 (a28 - 8)) + 1))] w49) := ⟨HS.out.box hg hbox hb⟩
          clear hg hbox hb
          refine hK.out _ _ (⟨blk_cellv (HS.out.at2) 4 rfl, blk_cellv (HS.out.at0) 3 rfl, blk_cellv (HS.out.at2) 2 rfl⟩) (fun hHeld => ?_)
          clear hK K
          refine norm_ (a' := ?_) ?_ ?_
          rotate_left
          ·show Act.put _ (some 62) _ = _
           simp only [Act.put, List.setIfInBounds_toArray, List.set_cons_zero, List.set_cons_succ, i64_w, i32_w]
           rfl
          refine one_ (i := 6) (N := some 59) #[true, true, true, true, true, true, true, true, true, true, false, false, false, false, false] rfl rfl (by kernel_rfl) (by decide) (fun K hK => ?_)
          refine goes_ Try.func107 (by kernel_rfl) rfl #[.slice (some ⟨g20, 0, none⟩) 2 2] (by rfl) rfl rfl (by (try simp only [List.map_toArray, List.map_cons, List.map_nil]); first | done | rfl) ?_
          refine (ratio_Mul.calls _ [2, t06] (some ⟨g20, 0, none⟩) 2 t07 _ ⟨Rd.lit (l := []) (xs := [2, t06]) HS.out 3 rfl (by simp)⟩ ⟨Sep.start _⟩ HA07).mono ?_
          rintro e_ w50 ⟨rfl, hS⟩
          replace HS : Aside0 (Sep (fps []) w [b1 g31 a27 a28 a29 a30, b2 g34 0 0 0 0 0 0 0 0, b2 g01 t01 (wrap64 (a28 - 8)) (wrap64 ((wrap64 (a28 - 8)) + 1)) t02 t05 t03 0 0, b3 g20 2 t06, b3 g23 2 (wrap64 ((wrap64 (a28 - 8)) + 1))] w50) := ⟨HS.out.call hS⟩
          clear hS
          refine ⟨_, rfl, ?_⟩
          refine hK.out _ _ (⟨blk_cellv (HS.out.at2) 4 rfl, blk_cellv (HS.out.at0) 3 rfl, blk_cellv (HS.out.at2) 2 rfl⟩) (fun hHeld => ?_)
          clear hK K
          refine norm_ (a' := ?_) ?_ ?_
          rotate_left
          ·show Act.put _ (some 59) _ = _
           simp only [Act.put, List.setIfInBounds_toArray, List.set_cons_zero, List.set_cons_succ, i64_w, i32_w]
           rfl
          refine one_ (i := 10) (N := some 63) #[true, true, true, true, true, true, true, true, true, true, true, false, false, false, false] rfl rfl (by kernel_rfl) (by decide) (fun K hK => ?_)
          refine goes_ Try.func107 (by kernel_rfl) rfl #[.slice (some ⟨g23, 0, none⟩) 2 2] (by rfl) rfl rfl (by (try simp only [List.map_toArray, List.map_cons, List.map_nil]); first | done | rfl) ?_
          refine (ratio_Mul.calls _ [2, wrap64 ((wrap64 (a28 - 8)) + 1)] (some ⟨g23, 0, none⟩) 2 t08 _ ⟨Rd.lit (l := []) (xs := [2, wrap64 ((wrap64 (a28 - 8)) + 1)]) HS.out 4 rfl (by simp)⟩ ⟨Sep.start _⟩ HA08).mono ?_
          rintro e_ w51 ⟨rfl, hS⟩
          replace HS : Aside0 (Sep (fps []) w [b1 g31 a27 a28 a29 a30, b2 g34 0 0 0 0 0 0 0 0, b2 g01 t01 (wrap64 (a28 - 8)) (wrap64 ((wrap64 (a28 - 8)) + 1)) t02 t05 t03 0 0, b3 g20 2 t06, b3 g23 2 (wrap64 ((wrap64 (a28 - 8)) + 1))] w51) := ⟨HS.out.call hS⟩
          clear hS
          refine ⟨_, rfl, ?_⟩
          refine hK.out _ _ (⟨blk_cellv (HS.out.at2) 4 rfl, blk_cellv (HS.out.at0) 3 rfl, blk_cellv (HS.out.at2) 2 rfl⟩) (fun hHeld => ?_)
          clear hK K
          refine norm_ (a' := ?_) ?_ ?_
          rotate_left
          ·show Act.put _ (some 63) _ = _
           simp only [Act.put, List.setIfInBounds_toArray, List.set_cons_zero, List.set_cons_succ, i64_w, i32_w]
           rfl
          refine one_ (i := 11) (N := some 64) #[true, true, true, true, true, true, true, true, true, true, true, true, false, false, false] rfl rfl (by kernel_rfl) (by decide) (fun K hK => ?_)
          refine slice_step (n := 2) (by rfl) (N := 64) rfl (cs := #[.int .i64 t07, .int .i64 t08]) (t := 3) ?hr ?_
          case hr => first | (go_simp; done) | (go_simp; rfl)
          intro g24 hg w52 hbox hb
          replace HS : Aside0 (Sep (fps []) w [b1 g31 a27 a28 a29 a30, b2 g34 0 0 0 0 0 0 0 0, b2 g01 t01 (wrap64 (a28 - 8)) (wrap64 ((wrap64 (a28 - 8)) + 1)) t02 t05 t03 0 0, b3 g20 2 t06, b3 g23 2 (wrap64 ((wrap64 (a28 - 8)) + 1)), b3 g24 t07 t08] w52) := ⟨HS.out.box hg hbox hb⟩
          clear hg hbox hb
          refine hK.out _ _ (⟨blk_cellv (HS.out.at2) 4 rfl, blk_cellv (HS.out.at0) 3 rfl, blk_cellv (HS.out.at2) 2 rfl⟩) (fun hHeld => ?_)
          clear hK K
          refine norm_ (a' := ?_) ?_ ?_
          rotate_left
          ·show Act.put _ (some 64) _ = _
           simp only [Act.put, List.setIfInBounds_toArray, List.set_cons_zero, List.set_cons_succ, i64_w, i32_w]
           rfl
          refine one_ (i := 12) (N := some 65) #[true, true, true, true, true, true, true, true, true, true, true, true, true, false, false] rfl rfl (by kernel_rfl) (by decide) (fun K hK => ?_)
          refine goes_ Try.func106 (by kernel_rfl) rfl #[.slice (some ⟨g24, 0, none⟩) 2 2] (by rfl) rfl rfl (by (try simp only [List.map_toArray, List.map_cons, List.map_nil]); first | done | rfl) ?_
          refine (ratio_Add.calls _ [t07, t08] (some ⟨g24, 0, none⟩) 2 t09 _ ⟨Rd.lit (l := []) (xs := [t07, t08]) HS.out 5 rfl (by simp)⟩ ⟨Sep.start _⟩ HA09).mono ?_
          rintro e_ w53 ⟨rfl, hS⟩
          replace HS : Aside0 (Sep (fps []) w [b1 g31 a27 a28 a29 a30, b2 g34 0 0 0 0 0 0 0 0, b2 g01 t01 (wrap64 (a28 - 8)) (wrap64 ((wrap64 (a28 - 8)) + 1)) t02 t05 t03 0 0, b3 g20 2 t06, b3 g23 2 (wrap64 ((wrap64 (a28 - 8)) + 1)), b3 g24 t07 t08] w53) := ⟨HS.out.call hS⟩
          clear hS
          refine ⟨_, rfl, ?_⟩
          refine hK.out _ _ (⟨blk_cellv (HS.out.at2) 4 rfl, blk_cellv (HS.out.at0) 3 rfl, blk_cellv (HS.out.at2) 2 rfl⟩) (fun hHeld => ?_)
          clear hK K
          refine norm_ (a' := ?_) ?_ ?_
          rotate_left
          ·show Act.put _ (some 65) _ = _
           simp only [Act.put, List.setIfInBounds_toArray, List.set_cons_zero, List.set_cons_succ, i64_w, i32_w]
           rfl
          refine pure_ (i := 13) (N := some 66) (v := ?_) (a' := ?_) #[true, true, true, true, true, true, true, true, true, true, true, true, true, true, false] rfl rfl (by kernel_rfl) (fun _ _ _ h => h) (Or.inl ⟨by rfl, ?_⟩) ?_ ?_
          rotate_left
          ·intro w'
           go_simp
           with_reducible rfl
          rotate_left
          ·simp only [Act.put, List.setIfInBounds_toArray, List.set_cons_zero, List.set_cons_succ, i64_w, i32_w]
           rfl
          refine one_ (i := 14) (N := none) #[true, true, true, true, true, true, true, true, true, true, true, true, true, true, true] rfl rfl (by kernel_rfl) (by decide) (fun K hK => ?_)
          have hc55 := blk_cellv (v := .int .i64 0) (HS.out.at2) 6 rfl
          have hz45 := blk_fz (HS.out.at2) 6
          refine store_step (w1 := (World.setCell w53 ⟨g01, 6, none⟩ (.int .i64 t09))) (by rfl) rfl ?hr ?_
          case hr => first | (go_simp; done) | (go_simp; rfl)
          clear hc55 hz45
          intro w54 hst
          have hq0 : Sep (fps []) w [b1 g31 a27 a28 a29 a30, b2 g34 0 0 0 0 0 0 0 0, b2 g01 t01 (wrap64 (a28 - 8)) (wrap64 ((wrap64 (a28 - 8)) + 1)) t02 t05 t03 t09 0, b3 g20 2 t06, b3 g23 2 (wrap64 ((wrap64 (a28 - 8)) + 1)), b3 g24 t07 t08] (World.setCell w53 ⟨g01, 6, none⟩ (.int .i64 t09)) := (HS.out).set1 (l1 := [b1 g31 a27 a28 a29 a30, b2 g34 0 0 0 0 0 0 0 0]) (l2 := [b3 g20 2 t06, b3 g23 2 (wrap64 ((wrap64 (a28 - 8)) + 1)), b3 g24 t07 t08]) 6 (.int .i64 t09)
          have HS_ : Aside0 (Sep (fps []) w [b1 g31 a27 a28 a29 a30, b2 g34 0 0 0 0 0 0 0 0, b2 g01 t01 (wrap64 (a28 - 8)) (wrap64 ((wrap64 (a28 - 8)) + 1)) t02 t05 t03 t09 0, b3 g20 2 t06, b3 g23 2 (wrap64 ((wrap64 (a28 - 8)) + 1)), b3 g24 t07 t08] w54) := ⟨by rw [hst]; exact hq0⟩
          clear hq0
          clear HS hst
          have HS := HS_
          clear HS_
          refine hK.out _ _ (⟨blk_cellv (HS.out.at2) 4 rfl, blk_cellv (HS.out.at0) 3 rfl, blk_cellv (HS.out.at2) 2 rfl⟩) (fun hHeld => ?_)
          clear hK K
          refine done_ (by kernel_rfl) ?_
          go_wp2_with fail
          go_meet
          case rel => exact ⟨g20, g23, g24, ⟨((((((HS.out).front 5 (by simp)).front 5 (by simp)).front 5 (by simp)).front 5 (by simp)).front 5 (by simp)).front 5 (by simp)⟩⟩
        ·refine slice_step (n := 2) (by rfl) (N := 62) rfl (cs := #[.int .i64 2, .int .i64 (wrap64 ((wrap64 (a28 - 8)) + 1))]) (t := 3) ?hr ?_
         case hr => first | (go_simp; done) | (go_simp; rfl)
         intro g25 hg w55 hbox hb
         replace HS : Aside0 (Sep (fps []) w [b1 g31 a27 a28 a29 a30, b2 g34 0 0 0 0 0 0 0 0, b2 g01 t01 (wrap64 (a28 - 8)) (wrap64 ((wrap64 (a28 - 8)) + 1)) t02 t05 t03 0 0, b3 g25 2 (wrap64 ((wrap64 (a28 - 8)) + 1))] w55) := ⟨HS.out.box hg hbox hb⟩
         clear hg hbox hb
         refine hK.out _ _ (⟨blk_cellv (HS.out.at2) 4 rfl, blk_cellv (HS.out.at0) 3 rfl, blk_cellv (HS.out.at2) 2 rfl⟩) (fun hHeld => ?_)
         clear hK K
         refine norm_ (a' := ?_) ?_ ?_
         rotate_left
         ·show Act.put _ (some 62) _ = _
          simp only [Act.put, List.setIfInBounds_toArray, List.set_cons_zero, List.set_cons_succ, i64_w, i32_w]
          rfl
         refine one_ (i := 5) (N := some 58) #[true, true, true, true, true, true, false, true, true, true, false, false, false, false, false] rfl rfl (by kernel_rfl) (by decide) (fun K hK => ?_)
         refine slice_step (n := 2) (by rfl) (N := 58) rfl (cs := #[.int .i64 2, .int .i64 t06]) (t := 3) ?hr ?_
         case hr => first | (go_simp; done) | (go_simp; rfl)
         intro g26 hg w56 hbox hb
         replace HS : Aside0 (Sep (fps []) w [b1 g31 a27 a28 a29 a30, b2 g34 0 0 0 0 0 0 0 0, b2 g01 t01 (wrap64 (a28 - 8)) (wrap64 ((wrap64 (a28 - 8)) + 1)) t02 t05 t03 0 0, b3 g25 2 (wrap64 ((wrap64 (a28 - 8)) + 1)), b3 g26 2 t06] w56) := ⟨HS.out.box hg hbox hb⟩
         clear hg hbox hb
         refine hK.out _ _ (⟨blk_cellv (HS.out.at2) 4 rfl, blk_cellv (HS.out.at0) 3 rfl, blk_cellv (HS.out.at2) 2 rfl⟩) (fun hHeld => ?_)
         clear hK K
         refine norm_ (a' := ?_) ?_ ?_
         rotate_left
         ·show Act.put _ (some 58) _ = _
          simp only [Act.put, List.setIfInBounds_toArray, List.set_cons_zero, List.set_cons_succ, i64_w, i32_w]
          rfl
         refine one_ (i := 6) (N := some 59) #[true, true, true, true, true, true, true, true, true, true, false, false, false, false, false] rfl rfl (by kernel_rfl) (by decide) (fun K hK => ?_)
         refine goes_ Try.func107 (by kernel_rfl) rfl #[.slice (some ⟨g26, 0, none⟩) 2 2] (by rfl) rfl rfl (by (try simp only [List.map_toArray, List.map_cons, List.map_nil]); first | done | rfl) ?_
         refine (ratio_Mul.calls _ [2, t06] (some ⟨g26, 0, none⟩) 2 t07 _ ⟨Rd.lit (l := []) (xs := [2, t06]) HS.out 4 rfl (by simp)⟩ ⟨Sep.start _⟩ HA07).mono ?_
         rintro e_ w57 ⟨rfl, hS⟩
         replace HS : Aside0 (Sep (fps []) w [b1 g31 a27 a28 a29 a30, b2 g34 0 0 0 0 0 0 0 0, b2 g01 t01 (wrap64 (a28 - 8)) (wrap64 ((wrap64 (a28 - 8)) + 1)) t02 t05 t03 0 0, b3 g25 2 (wrap64 ((wrap64 (a28 - 8)) + 1)), b3 g26 2 t06] w57) := ⟨HS.out.call hS⟩
         clear hS
         refine ⟨_, rfl, ?_⟩
         refine hK.out _ _ (⟨blk_cellv (HS.out.at2) 4 rfl, blk_cellv (HS.out.at0) 3 rfl, blk_cellv (HS.out.at2) 2 rfl⟩) (fun hHeld => ?_)
         clear hK K
         refine norm_ (a' := ?_) ?_ ?_
         rotate_left
         ·show Act.put _ (some 59) _ = _
          simp only [Act.put, List.setIfInBounds_toArray, List.set_cons_zero, List.set_cons_succ, i64_w, i32_w]
          rfl
         refine one_ (i := 10) (N := some 63) #[true, true, true, true, true, true, true, true, true, true, true, false, false, false, false] rfl rfl (by kernel_rfl) (by decide) (fun K hK => ?_)
         refine goes_ Try.func107 (by kernel_rfl) rfl #[.slice (some ⟨g25, 0, none⟩) 2 2] (by rfl) rfl rfl (by (try simp only [List.map_toArray, List.map_cons, List.map_nil]); first | done | rfl) ?_
         refine (ratio_Mul.calls _ [2, wrap64 ((wrap64 (a28 - 8)) + 1)] (some ⟨g25, 0, none⟩) 2 t08 _ ⟨Rd.lit (l := []) (xs := [2, wrap64 ((wrap64 (a28 - 8)) + 1)]) HS.out 3 rfl (by simp)⟩ ⟨Sep.start _⟩ HA08).mono ?_
         rintro e_ w58 ⟨rfl, hS⟩
         replace HS : Aside0 (Sep (fps []) w [b1 g31 a27 a28 a29 a30, b2 g34 0 0 0 0 0 0 0 0, b2 g01 t01 (wrap64 (a28 - 8)) (wrap64 ((wrap64 (a28 - 8)) + 1)) t02 t05 t03 0 0, b3 g25 2 (wrap64 ((wrap64 (a28 - 8)) + 1)), b3 g26 2 t06] w58) := ⟨HS.out.call hS⟩
         clear hS
         refine ⟨_, rfl, ?_⟩
         refine hK.out _ _ (⟨blk_cellv (HS.out.at2) 4 rfl, blk_cellv (HS.out.at0) 3 rfl, blk_cellv (HS.out.at2) 2 rfl⟩) (fun hHeld => ?_)
         clear hK K
         refine norm_ (a' := ?_) ?_ ?_
         rotate_left
         ·show Act.put _ (some 63) _ = _
          simp only [Act.put, List.setIfInBounds_toArray, List.set_cons_zero, List.set_cons_succ, i64_w, i32_w]
          rfl
         refine one_ (i := 11) (N := some 64) #[true, true, true, true, true, true, true, true, true, true, true, true, false, false, false] rfl rfl (by kernel_rfl) (by decide) (fun K hK => ?_)
         refine slice_step (n := 2) (by rfl) (N := 64) rfl (cs := #[.int .i64 t07, .int .i64 t08]) (t := 3) ?hr ?_
         case hr => first | (go_simp; done) | (go_simp; rfl)
         intro g27 hg w59 hbox hb
         replace HS : Aside0 (Sep (fps []) w [b1 g31 a27 a28 a29 a30, b2 g34 0 0 0 0 0 0 0 0, b2 g01 t01 (wrap64 (a28 - 8)) (wrap64 ((wrap64 (a28 - 8)) + 1)) t02 t05 t03 0 0, b3 g25 2 (wrap64 ((wrap64 (a28 - 8)) + 1)), b3 g26 2 t06, b3 g27 t07 t08] w59) := ⟨HS.out.box hg hbox hb⟩
         clear hg hbox hb
         refine hK.out _ _ (⟨blk_cellv (HS.out.at2) 4 rfl, blk_cellv (HS.out.at0) 3 rfl, blk_cellv (HS.out.at2) 2 rfl⟩) (fun hHeld => ?_)
         clear hK K
         refine norm_ (a' := ?_) ?_ ?_
         rotate_left
         ·show Act.put _ (some 64) _ = _
          simp only [Act.put, List.setIfInBounds_toArray, List.set_cons_zero, List.set_cons_succ, i64_w, i32_w]
          rfl
         refine one_ (i := 12) (N := some 65) #[true, true, true, true, true, true, true, true, true, true, true, true, true, false, false] rfl rfl (by kernel_rfl) (by decide) (fun K hK => ?_)
         refine goes_ Try.func106 (by kernel_rfl) rfl #[.slice (some ⟨g27, 0, none⟩) 2 2] (by rfl) rfl rfl (by (try simp only [List.map_toArray, List.map_cons, List.map_nil]); first | done | rfl) ?_
         refine (ratio_Add.calls _ [t07, t08] (some ⟨g27, 0, none⟩) 2 t09 _ ⟨Rd.lit (l := []) (xs := [t07, t08]) HS.out 5 rfl (by simp)⟩ ⟨Sep.start _⟩ HA09).mono ?_
         rintro e_ w60 ⟨rfl, hS⟩
         replace HS : Aside0 (Sep (fps []) w [b1 g31 a27 a28 a29 a30, b2 g34 0 0 0 0 0 0 0 0, b2 g01 t01 (wrap64 (a28 - 8)) (wrap64 ((wrap64 (a28 - 8)) + 1)) t02 t05 t03 0 0, b3 g25 2 (wrap64 ((wrap64 (a28 - 8)) + 1)), b3 g26 2 t06, b3 g27 t07 t08] w60) := ⟨HS.out.call hS⟩
         clear hS
         refine ⟨_, rfl, ?_⟩
         refine hK.out _ _ (⟨blk_cellv (HS.out.at2) 4 rfl, blk_cellv (HS.out.at0) 3 rfl, blk_cellv (HS.out.at2) 2 rfl⟩) (fun hHeld => ?_)
         clear hK K
         refine norm_ (a' := ?_) ?_ ?_
         rotate_left
         ·show Act.put _ (some 65) _ = _
          simp only [Act.put, List.setIfInBounds_toArray, List.set_cons_zero, List.set_cons_succ, i64_w, i32_w]
          rfl
         refine pure_ (i := 13) (N := some 66) (v := ?_) (a' := ?_) #[true, true, true, true, true, true, true, true, true, true, true, true, true, true, false] rfl rfl (by kernel_rfl) (fun _ _ _ h => h) (Or.inl ⟨by rfl, ?_⟩) ?_ ?_
         rotate_left
         ·intro w'
          go_simp
          with_reducible rfl
         rotate_left
         ·simp only [Act.put, List.setIfInBounds_toArray, List.set_cons_zero, List.set_cons_succ, i64_w, i32_w]
          rfl
         refine one_ (i := 14) (N := none) #[true, true, true, true, true, true, true, true, true, true, true, true, true, true, true] rfl rfl (by kernel_rfl) (by decide) (fun K hK => ?_)
         have hc56 := blk_cellv (v := .int .i64 0) (HS.out.at2) 6 rfl
         have hz46 := blk_fz (HS.out.at2) 6
         refine store_step (w1 := (World.setCell w60 ⟨g01, 6, none⟩ (.int .i64 t09))) (by rfl) rfl ?hr ?_
         case hr => first | (go_simp; done) | (go_simp; rfl)
         clear hc56 hz46
         intro w61 hst
         have hq0 : Sep (fps []) w [b1 g31 a27 a28 a29 a30, b2 g34 0 0 0 0 0 0 0 0, b2 g01 t01 (wrap64 (a28 - 8)) (wrap64 ((wrap64 (a28 - 8)) + 1)) t02 t05 t03 t09 0, b3 g25 2 (wrap64 ((wrap64 (a28 - 8)) + 1)), b3 g26 2 t06, b3 g27 t07 t08] (World.setCell w60 ⟨g01, 6, none⟩ (.int .i64 t09)) := (HS.out).set1 (l1 := [b1 g31 a27 a28 a29 a30, b2 g34 0 0 0 0 0 0 0 0]) (l2 := [b3 g25 2 (wrap64 ((wrap64 (a28 - 8)) + 1)), b3 g26 2 t06, b3 g27 t07 t08]) 6 (.int .i64 t09)
         have HS_ : Aside0 (Sep (fps []) w [b1 g31 a27 a28 a29 a30, b2 g34 0 0 0 0 0 0 0 0, b2 g01 t01 (wrap64 (a28 - 8)) (wrap64 ((wrap64 (a28 - 8)) + 1)) t02 t05 t03 t09 0, b3 g25 2 (wrap64 ((wrap64 (a28 - 8)) + 1)), b3 g26 2 t06, b3 g27 t07 t08] w61) := ⟨by rw [hst]; exact hq0⟩
         clear hq0
         clear HS hst
         have HS := HS_
         clear HS_
         refine hK.out _ _ (⟨blk_cellv (HS.out.at2) 4 rfl, blk_cellv (HS.out.at0) 3 rfl, blk_cellv (HS.out.at2) 2 rfl⟩) (fun hHeld => ?_)
         clear hK K
         refine done_ (by kernel_rfl) ?_
         go_wp2_with fail
         go_meet
         case rel => exact ⟨g26, g25, g27, ⟨((((((HS.out).front 5 (by simp)).front 4 (by simp)).front 5 (by simp)).front 5 (by simp)).front 5 (by simp)).front 5 (by simp)⟩⟩
       ·refine slice_step (n := 2) (by rfl) (N := 62) rfl (cs := #[.int .i64 2, .int .i64 (wrap64 ((wrap64 (a28 - 8)) + 1))]) (t := 3) ?hr ?_
        case hr => first | (go_simp; done) | (go_simp; rfl)
        intro g28 hg w62 hbox hb
        replace HS : Aside0 (Sep (fps []) w [b1 g31 a27 a28 a29 a30, b2 g34 0 0 0 0 0 0 0 0, b2 g01 t01 (wrap64 (a28 - 8)) (wrap64 ((wrap64 (a28 - 8)) + 1)) t02 t05 t03 0 0, b3 g28 2 (wrap64 ((wrap64 (a28 - 8)) + 1))] w62) := ⟨HS.out.box hg hbox hb⟩
        clear hg hbox hb
        refine hK.out _ _ (⟨blk_cellv (HS.out.at2) 4 rfl, blk_cellv (HS.out.at0) 3 rfl, blk_cellv (HS.out.at2) 2 rfl⟩) (fun hHeld => ?_)
        clear hK K
        refine norm_ (a' := ?_) ?_ ?_
        rotate_left
        ·show Act.put _ (some 62) _ = _
         simp only [Act.put, List.setIfInBounds_toArray, List.set_cons_zero, List.set_cons_succ, i64_w, i32_w]
         rfl
        refine one_ (i := 4) (N := some 57) #[true, true, true, true, true, false, false, true, true, true, false, false, false, false, false] rfl rfl (by kernel_rfl) (by decide) (fun K hK => ?_)
        refine goes_ Try.func108 (by kernel_rfl) rfl #[.int .i64 t05, .int .i64 a30] (by rfl) rfl rfl (by (try simp only [List.map_toArray, List.map_cons, List.map_nil]); first | done | rfl) ?_
        refine (ratio_Up.calls t05 a30 t06 _ ⟨Sep.start _⟩ HA06).mono ?_
        rintro e_ w63 ⟨rfl, hS⟩
        replace HS : Aside0 (Sep (fps []) w [b1 g31 a27 a28 a29 a30, b2 g34 0 0 0 0 0 0 0 0, b2 g01 t01 (wrap64 (a28 - 8)) (wrap64 ((wrap64 (a28 - 8)) + 1)) t02 t05 t03 0 0, b3 g28 2 (wrap64 ((wrap64 (a28 - 8)) + 1))] w63) := ⟨HS.out.call hS⟩
        clear hS
        refine ⟨_, rfl, ?_⟩
        refine hK.out _ _ (⟨blk_cellv (HS.out.at2) 4 rfl, blk_cellv (HS.out.at0) 3 rfl, blk_cellv (HS.out.at2) 2 rfl⟩) (fun hHeld => ?_)
        clear hK K
        refine norm_ (a' := ?_) ?_ ?_
        rotate_left
        ·show Act.put _ (some 57) _ = _
         simp only [Act.put, List.setIfInBounds_toArray, List.set_cons_zero, List.set_cons_succ, i64_w, i32_w]
         rfl
        refine one_ (i := 5) (N := some 58) #[true, true, true, true, true, true, false, true, true, true, false, false, false, false, false] rfl rfl (by kernel_rfl) (by decide) (fun K hK => ?_)
        refine slice_step (n := 2) (by rfl) (N := 58) rfl (cs := #[.int .i64 2, .int .i64 t06]) (t := 3) ?hr ?_
        case hr => first | (go_simp; done) | (go_simp; rfl)
        intro g29 hg w64 hbox hb
        replace HS : Aside0 (Sep (fps []) w [b1 g31 a27 a28 a29 a30, b2 g34 0 0 0 0 0 0 0 0, b2 g01 t01 (wrap64 (a28 - 8)) (wrap64 ((wrap64 (a28 - 8)) + 1)) t02 t05 t03 0 0, b3 g28 2 (wrap64 ((wrap64 (a28 - 8)) + 1)), b3 g29 2 t06] w64) := ⟨HS.out.box hg hbox hb⟩
        clear hg hbox hb
        refine hK.out _ _ (⟨blk_cellv (HS.out.at2) 4 rfl, blk_cellv (HS.out.at0) 3 rfl, blk_cellv (HS.out.at2) 2 rfl⟩) (fun hHeld => ?_)
        clear hK K
        refine norm_ (a' := ?_) ?_ ?_
        rotate_left
        ·show Act.put _ (some 58) _ = _
         simp only [Act.put, List.setIfInBounds_toArray, List.set_cons_zero, List.set_cons_succ, i64_w, i32_w]
         rfl
        refine one_ (i := 6) (N := some 59) #[true, true, true, true, true, true, true, true, true, true, false, false, false, false, false] rfl rfl (by kernel_rfl) (by decide) (fun K hK => ?_)
        refine goes_ Try.func107 (by kernel_rfl) rfl #[.slice (some ⟨g29, 0, none⟩) 2 2] (by rfl) rfl rfl (by (try simp only [List.map_toArray, List.map_cons, List.map_nil]); first | done | rfl) ?_
        refine (ratio_Mul.calls _ [2, t06] (some ⟨g29, 0, none⟩) 2 t07 _ ⟨Rd.lit (l := []) (xs := [2, t06]) HS.out 4 rfl (by simp)⟩ ⟨Sep.start _⟩ HA07).mono ?_
        rintro e_ w65 ⟨rfl, hS⟩
        replace HS : Aside0 (Sep (fps []) w [b1 g31 a27 a28 a29 a30, b2 g34 0 0 0 0 0 0 0 0, b2 g01 t01 (wrap64 (a28 - 8)) (wrap64 ((wrap64 (a28 - 8)) + 1)) t02 t05 t03 0 0, b3 g28 2 (wrap64 ((wrap64 (a28 - 8)) + 1)), b3 g29 2 t06] w65) := ⟨HS.out.call hS⟩
        clear hS
        refine ⟨_, rfl, ?_⟩
        refine hK.out _ _ (⟨blk_cellv (HS.out.at2) 4 rfl, blk_cellv (HS.out.at0) 3 rfl, blk_cellv (HS.out.at2) 2 rfl⟩) (fun hHeld => ?_)
        clear hK K
        refine norm_ (a' := ?_) ?_ ?_
        rotate_left
        ·show Act.put _ (some 59) _ = _
         simp only [Act.put, List.setIfInBounds_toArray, List.set_cons_zero, List.set_cons_succ, i64_w, i32_w]
         rfl
        refine one_ (i := 10) (N := some 63) #[true, true, true, true, true, true, true, true, true, true, true, false, false, false, false] rfl rfl (by kernel_rfl) (by decide) (fun K hK => ?_)
        refine goes_ Try.func107 (by kernel_rfl) rfl #[.slice (some ⟨g28, 0, none⟩) 2 2] (by rfl) rfl rfl (by (try simp only [List.map_toArray, List.map_cons, List.map_nil]); first | done | rfl) ?_
        refine (ratio_Mul.calls _ [2, wrap64 ((wrap64 (a28 - 8)) + 1)] (some ⟨g28, 0, none⟩) 2 t08 _ ⟨Rd.lit (l := []) (xs := [2, wrap64 ((wrap64 (a28 - 8)) + 1)]) HS.out 3 rfl (by simp)⟩ ⟨Sep.start _⟩ HA08).mono ?_
        rintro e_ w66 ⟨rfl, hS⟩
        replace HS : Aside0 (Sep (fps []) w [b1 g31 a27 a28 a29 a30, b2 g34 0 0 0 0 0 0 0 0, b2 g01 t01 (wrap64 (a28 - 8)) (wrap64 ((wrap64 (a28 - 8)) + 1)) t02 t05 t03 0 0, b3 g28 2 (wrap64 ((wrap64 (a28 - 8)) + 1)), b3 g29 2 t06] w66) := ⟨HS.out.call hS⟩
        clear hS
        refine ⟨_, rfl, ?_⟩
        refine hK.out _ _ (⟨blk_cellv (HS.out.at2) 4 rfl, blk_cellv (HS.out.at0) 3 rfl, blk_cellv (HS.out.at2) 2 rfl⟩) (fun hHeld => ?_)
        clear hK K
        refine norm_ (a' := ?_) ?_ ?_
        rotate_left
        ·show Act.put _ (some 63) _ = _
         simp only [Act.put, List.setIfInBounds_toArray, List.set_cons_zero, List.set_cons_succ, i64_w, i32_w]
         rfl
        refine one_ (i := 11) (N := some 64) #[true, true, true, true, true, true, true, true, true, true, true, true, false, false, false] rfl rfl (by kernel_rfl) (by decide) (fun K hK => ?_)
        refine slice_step (n := 2) (by rfl) (N := 64) rfl (cs := #[.int .i64 t07, .int .i64 t08]) (t := 3) ?hr ?_
        case hr => first | (go_simp; done) | (go_simp; rfl)
        intro g30 hg w67 hbox hb
        replace HS : Aside0 (Sep (fps []) w [b1 g31 a27 a28 a29 a30, b2 g34 0 0 0 0 0 0 0 0, b2 g01 t01 (wrap64 (a28 - 8)) (wrap64 ((wrap64 (a28 - 8)) + 1)) t02 t05 t03 0 0, b3 g28 2 (wrap64 ((wrap64 (a28 - 8)) + 1)), b3 g29 2 t06, b3 g30 t07 t08] w67) := ⟨HS.out.box hg hbox hb⟩
        clear hg hbox hb
        refine hK.out _ _ (⟨blk_cellv (HS.out.at2) 4 rfl, blk_cellv (HS.out.at0) 3 rfl, blk_cellv (HS.out.at2) 2 rfl⟩) (fun hHeld => ?_)
        clear hK K
        refine norm_ (a' := ?_) ?_ ?_
        rotate_left
        ·show Act.put _ (some 64) _ = _
         simp only [Act.put, List.setIfInBounds_toArray, List.set_cons_zero, List.set_cons_succ, i64_w, i32_w]
         rfl
        refine one_ (i := 12) (N := some 65) #[true, true, true, true, true, true, true, true, true, true, true, true, true, false, false] rfl rfl (by kernel_rfl) (by decide) (fun K hK => ?_)
        refine goes_ Try.func106 (by kernel_rfl) rfl #[.slice (some ⟨g30, 0, none⟩) 2 2] (by rfl) rfl rfl (by (try simp only [List.map_toArray, List.map_cons, List.map_nil]); first | done | rfl) ?_
        refine (ratio_Add.calls _ [t07, t08] (some ⟨g30, 0, none⟩) 2 t09 _ ⟨Rd.lit (l := []) (xs := [t07, t08]) HS.out 5 rfl (by simp)⟩ ⟨Sep.start _⟩ HA09).mono ?_
        rintro e_ w68 ⟨rfl, hS⟩
        replace HS : Aside0 (Sep (fps []) w [b1 g31 a27 a28 a29 a30, b2 g34 0 0 0 0 0 0 0 0, b2 g01 t01 (wrap64 (a28 - 8)) (wrap64 ((wrap64 (a28 - 8)) + 1)) t02 t05 t03 0 0, b3 g28 2 (wrap64 ((wrap64 (a28 - 8)) + 1)), b3 g29 2 t06, b3 g30 t07 t08] w68) := ⟨HS.out.call hS⟩
        clear hS
        refine ⟨_, rfl, ?_⟩
        refine hK.out _ _ (⟨blk_cellv (HS.out.at2) 4 rfl, blk_cellv (HS.out.at0) 3 rfl, blk_cellv (HS.out.at2) 2 rfl⟩) (fun hHeld => ?_)
        clear hK K
        refine norm_ (a' := ?_) ?_ ?_
        rotate_left
        ·show Act.put _ (some 65) _ = _
         simp only [Act.put, List.setIfInBounds_toArray, List.set_cons_zero, List.set_cons_succ, i64_w, i32_w]
         rfl
        refine pure_ (i := 13) (N := some 66) (v := ?_) (a' := ?_) #[true, true, true, true, true, true, true, true, true, true, true, true, true, true, false] rfl rfl (by kernel_rfl) (fun _ _ _ h => h) (Or.inl ⟨by rfl, ?_⟩) ?_ ?_
        rotate_left
        ·intro w'
         go_simp
         with_reducible rfl
        rotate_left
        ·simp only [Act.put, List.setIfInBounds_toArray, List.set_cons_zero, List.set_cons_succ, i64_w, i32_w]
         rfl
        refine one_ (i := 14) (N := none) #[true, true, true, true, true, true, true, true, true, true, true, true, true, true, true] rfl rfl (by kernel_rfl) (by decide) (fun K hK => ?_)
        have hc57 := blk_cellv (v := .int .i64 0) (HS.out.at2) 6 rfl
        have hz47 := blk_fz (HS.out.at2) 6
        refine store_step (w1 := (World.setCell w68 ⟨g01, 6, none⟩ (.int .i64 t09))) (by rfl) rfl ?hr ?_
        case hr => first | (go_simp; done) | (go_simp; rfl)
        clear hc57 hz47
        intro w69 hst
        have hq0 : Sep (fps []) w [b1 g31 a27 a28 a29 a30, b2 g34 0 0 0 0 0 0 0 0, b2 g01 t01 (wrap64 (a28 - 8)) (wrap64 ((wrap64 (a28 - 8)) + 1)) t02 t05 t03 t09 0, b3 g28 2 (wrap64 ((wrap64 (a28 - 8)) + 1)), b3 g29 2 t06, b3 g30 t07 t08] (World.setCell w68 ⟨g01, 6, none⟩ (.int .i64 t09)) := (HS.out).set1 (l1 := [b1 g31 a27 a28 a29 a30, b2 g34 0 0 0 0 0 0 0 0]) (l2 := [b3 g28 2 (wrap64 ((wrap64 (a28 - 8)) + 1)), b3 g29 2 t06, b3 g30 t07 t08]) 6 (.int .i64 t09)
        have HS_ : Aside0 (Sep (fps []) w [b1 g31 a27 a28 a29 a30, b2 g34 0 0 0 0 0 0 0 0, b2 g01 t01 (wrap64 (a28 - 8)) (wrap64 ((wrap64 (a28 - 8)) + 1)) t02 t05 t03 t09 0, b3 g28 2 (wrap64 ((wrap64 (a28 - 8)) + 1)), b3 g29 2 t06, b3 g30 t07 t08] w69) := ⟨by rw [hst]; exact hq0⟩
        clear hq0
        clear HS hst
        have HS := HS_
        clear HS_
        refine hK.out _ _ (⟨blk_cellv (HS.out.at2) 4 rfl, blk_cellv (HS.out.at0) 3 rfl, blk_cellv (HS.out.at2) 2 rfl⟩) (fun hHeld => ?_)
        clear hK K
        refine done_ (by kernel_rfl) ?_
        go_wp2_with fail
        go_meet
        case rel => exact ⟨g29, g28, g30, ⟨((((((HS.out).front 5 (by simp)).front 4 (by simp)).front 5 (by simp)).front 5 (by simp)).front 5 (by simp)).front 5 (by simp)⟩⟩
     case rest =>
       clear HS
       obtain ⟨g17, g18, g19, HS⟩ := hcut
       obtain ⟨w70, rfl⟩ : ∃ x : World, x = wc := ⟨_, rfl⟩
       replace HS : Aside0 (Sep (fps []) w [b1 g31 a27 a28 a29 a30, b2 g34 0 0 0 0 0 0 0 0, b2 g01 t01 (wrap64 (a28 - 8)) (wrap64 ((wrap64 (a28 - 8)) + 1)) t02 t05 t03 t09 0] w70) := ⟨HS.out.sub (.cons_cons _ (.cons_cons _ (.cons_cons _ (.cons _ (.cons _ (.cons _ .slnil))))))⟩
       go_wp2_with fail
       refine start_ (n := 15) (S := (fun w' => w'.cell? ⟨g01, 4, none⟩ = some (.int .i64 t05) ∧ w'.cell? ⟨g01, 5, none⟩ = some (.int .i64 t03) ∧ w'.cell? ⟨g31, 3, none⟩ = some (.int .i64 a30))) (ds := []) #[false, false, false, false, false, false, false, false, false, false, false, false, false, false, false] (by kernel_rfl) rfl rfl (⟨blk_cellv ((HS.out.drew).at2) 4 rfl, blk_cellv ((HS.out.drew).at2) 5 rfl, blk_cellv ((HS.out.drew).at0) 3 rfl⟩) (fun hHeld => ?_)
       have HS_ := Aside0.mk HS.out.drew
       clear HS
       generalize World.drew _ = w71 at HS_ hHeld ⊢
       have HS := HS_
       clear HS_
       refine pure_ (i := 0) (N := some 67) (v := ?_) (a' := ?_) #[true, false, false, false, false, false, false, false, false, false, false, false, false, false, false] rfl rfl (by kernel_rfl) (fun _ _ _ h => h) (Or.inl ⟨by rfl, ?_⟩) ?_ ?_
       rotate_left
       ·intro w'
        go_simp
        with_reducible rfl
       rotate_left
       ·simp only [Act.put, List.setIfInBounds_toArray, List.set_cons_zero, List.set_cons_succ, i64_w, i32_w]
        rfl
       refine pure_ (i := 2) (N := some 69) (v := ?_) (a' := ?_) #[true, false, true, false, false, false, false, false, false, false, false, false, false, false, false] rfl rfl (by kernel_rfl) (fun _ _ _ h => h) (Or.inl ⟨by rfl, ?_⟩) ?_ ?_
       rotate_left
       ·intro w'
        go_simp
        with_reducible rfl
       rotate_left
       ·simp only [Act.put, List.setIfInBounds_toArray, List.set_cons_zero, List.set_cons_succ, i64_w, i32_w]
        rfl
       refine pure_ (i := 4) (N := some 71) (v := ?_) (a' := ?_) #[true, false, true, false, true, false, false, false, false, false, false, false, false, false, false] rfl rfl (by kernel_rfl) (fun _ _ _ h => h) (Or.inl ⟨by rfl, ?_⟩) ?_ ?_
       rotate_left
       ·intro w'
        go_simp
        with_reducible rfl
       rotate_left
       ·simp only [Act.put, List.setIfInBounds_toArray, List.set_cons_zero, List.set_cons_succ, i64_w, i32_w]
        rfl
       refine pure_ (i := 8) (N := some 75) (v := ?_) (a' := ?_) #[true, false, true, false, true, false, false, false, true, false, false, false, false, false, false] rfl rfl (by kernel_rfl) (fun _ _ _ h => h) (Or.inl ⟨by rfl, ?_⟩) ?_ ?_
       rotate_left
       ·intro w'
        go_simp
        with_reducible rfl
       rotate_left
       ·simp only [Act.put, List.setIfInBounds_toArray, List.set_cons_zero, List.set_cons_succ, i64_w, i32_w]
        rfl
       refine take_ (i := 1) (N := some 68) (v := ?_) (a' := ?_) #[true, true, true, false, true, false, false, false, true, false, false, false, false, false, false] rfl rfl (by kernel_rfl) (fun _ _ _ h => h) (Or.inl ⟨by rfl, ?_⟩) hHeld ?_ ?_
       rotate_left
       ·rintro w' hS'
        obtain ⟨s0, s1, s2⟩ := hS'
        go_simp
        with_reducible rfl
       rotate_left
       ·simp only [Act.put, List.setIfInBounds_toArray, List.set_cons_zero, List.set_cons_succ, i64_w, i32_w]
        rfl
       refine take_ (i := 3) (N := some 70) (v := ?_) (a' := ?_) #[true, true, true, true, true, false, false, false, true, false, false, false, false, false, false] rfl rfl (by kernel_rfl) (fun _ _ _ h => h) (Or.inl ⟨by rfl, ?_⟩) hHeld ?_ ?_
       rotate_left
       ·rintro w' hS'
        obtain ⟨s0, s1, s2⟩ := hS'
        go_simp
        with_reducible rfl
       rotate_left
       ·simp only [Act.put, List.setIfInBounds_toArray, List.set_cons_zero, List.set_cons_succ, i64_w, i32_w]
        rfl
       refine take_ (i := 5) (N := some 72) (v := ?_) (a' := ?_) #[true, true, true, true, true, true, false, false, true, false, false, false, false, false, false] rfl rfl (by kernel_rfl) (fun _ _ _ h => h) (Or.inl ⟨by rfl, ?_⟩) hHeld ?_ ?_
       rotate_left
       ·rintro w' hS'
        obtain ⟨s0, s1, s2⟩ := hS'
        go_simp
        with_reducible rfl
       rotate_left
       ·simp only [Act.put, List.setIfInBounds_toArray, List.set_cons_zero, List.set_cons_succ, i64_w, i32_w]
        rfl
       refine take_ (i := 9) (N := some 76) (v := ?_) (a' := ?_) #[true, true, true, true, true, true, false, false, true, true, false, false, false, false, false] rfl rfl (by kernel_rfl) (fun _ _ _ h => h) (Or.inl ⟨by rfl, ?_⟩) hHeld ?_ ?_
       rotate_left
       ·rintro w' hS'
        obtain ⟨s0, s1, s2⟩ := hS'
        go_simp
        with_reducible rfl
       rotate_left
       ·simp only [Act.put, List.setIfInBounds_toArray, List.set_cons_zero, List.set_cons_succ, i64_w, i32_w]
        rfl
       refine one_ (i := 6) (N := some 73) #[true, true, true, true, true, true, true, false, true, true, false, false, false, false, false] rfl rfl (by kernel_rfl) (by decide) (fun K hK => ?_)
       refine slice_step (n := 3) (by rfl) (N := 73) rfl (cs := #[.int .i64 t05, .int .i64 t05, .int .i64 t03]) (t := 3) ?hr ?_
       case hr => first | (go_simp; done) | (go_simp; rfl)
       intro g32 hg w72 hbox hb
       replace HS : Aside0 (Sep (fps []) w [b1 g31 a27 a28 a29 a30, b2 g34 0 0 0 0 0 0 0 0, b2 g01 t01 (wrap64 (a28 - 8)) (wrap64 ((wrap64 (a28 - 8)) + 1)) t02 t05 t03 t09 0, b4 g32 t05 t05 t03] w72) := ⟨HS.out.box hg hbox hb⟩
       clear hg hbox hb
       refine hK.out _ _ (⟨blk_cellv (HS.out.at2) 4 rfl, blk_cellv (HS.out.at2) 5 rfl, blk_cellv (HS.out.at0) 3 rfl⟩) (fun hHeld => ?_)
       clear hK K
       refine norm_ (a' := ?_) ?_ ?_
       rotate_left
       ·show Act.put _ (some 73) _ = _
        simp only [Act.put, List.setIfInBounds_toArray, List.set_cons_zero, List.set_cons_succ, i64_w, i32_w]
        rfl
       refine one_ (i := 7) (N := some 74) #[true, true, true, true, true, true, true, true, true, true, false, false, false, false, false] rfl rfl (by kernel_rfl) (by decide) (fun K hK => ?_)
       obtain ⟨t10, HA10, H⟩ := bind_some H
       refine goes_ Try.func106 (by kernel_rfl) rfl #[.slice (some ⟨g32, 0, none⟩) 3 3] (by rfl) rfl rfl (by (try simp only [List.map_toArray, List.map_cons, List.map_nil]); first | done | rfl) ?_
       refine (ratio_Add.calls _ [t05, t05, t03] (some ⟨g32, 0, none⟩) 3 t10 _ ⟨Rd.lit (l := []) (xs := [t05, t05, t03]) HS.out 3 rfl (by simp)⟩ ⟨Sep.start _⟩ HA10).mono ?_
       rintro e_ w73 ⟨rfl, hS⟩
       replace HS : Aside0 (Sep (fps []) w [b1 g31 a27 a28 a29 a30, b2 g34 0 0 0 0 0 0 0 0, b2 g01 t01 (wrap64 (a28 - 8)) (wrap64 ((wrap64 (a28 - 8)) + 1)) t02 t05 t03 t09 0, b4 g32 t05 t05 t03] w73) := ⟨HS.out.call hS⟩
       clear hS
       refine ⟨_, rfl, ?_⟩
       refine hK.out _ _ (⟨blk_cellv (HS.out.at2) 4 rfl, blk_cellv (HS.out.at2) 5 rfl, blk_cellv (HS.out.at0) 3 rfl⟩) (fun hHeld => ?_)
       clear hK K
       refine norm_ (a' := ?_) ?_ ?_
       rotate_left
       ·show Act.put _ (some 74) _ = _
        simp only [Act.put, List.setIfInBounds_toArray, List.set_cons_zero, List.set_cons_succ, i64_w, i32_w]
        rfl
       refine one_ (i := 10) (N := some 77) #[true, true, true, true, true, true, true, true, true, true, true, false, false, false, false] rfl rfl (by kernel_rfl) (by decide) (fun K hK => ?_)
       obtain ⟨t11, HA11, H⟩ := bind_some H
       refine goes_ Try.func108 (by kernel_rfl) rfl #[.int .i64 t10, .int .i64 a30] (by rfl) rfl rfl (by (try simp only [List.map_toArray, List.map_cons, List.map_nil]); first | done | rfl) ?_
       refine (ratio_Up.calls t10 a30 t11 _ ⟨Sep.start _⟩ HA11).mono ?_
       rintro e_ w74 ⟨rfl, hS⟩
       replace HS : Aside0 (Sep (fps []) w [b1 g31 a27 a28 a29 a30, b2 g34 0 0 0 0 0 0 0 0, b2 g01 t01 (wrap64 (a28 - 8)) (wrap64 ((wrap64 (a28 - 8)) + 1)) t02 t05 t03 t09 0, b4 g32 t05 t05 t03] w74) := ⟨HS.out.call hS⟩
       clear hS
       refine ⟨_, rfl, ?_⟩
       refine hK.out _ _ (⟨blk_cellv (HS.out.at2) 4 rfl, blk_cellv (HS.out.at2) 5 rfl, blk_cellv (HS.out.at0) 3 rfl⟩) (fun hHeld => ?_)
       clear hK K
       refine norm_ (a' := ?_) ?_ ?_
       rotate_left
       ·show Act.put _ (some 77) _ = _
        simp only [Act.put, List.setIfInBounds_toArray, List.set_cons_zero, List.set_cons_succ, i64_w, i32_w]
        rfl
       refine one_ (i := 11) (N := some 78) #[true, true, true, true, true, true, true, true, true, true, true, true, false, false, false] rfl rfl (by kernel_rfl) (by decide) (fun K hK => ?_)
       refine slice_step (n := 2) (by rfl) (N := 78) rfl (cs := #[.int .i64 t11, .int .i64 2]) (t := 3) ?hr ?_
       case hr => first | (go_simp; done) | (go_simp; rfl)
       intro g33 hg w75 hbox hb
       replace HS : Aside0 (Sep (fps []) w [b1 g31 a27 a28 a29 a30, b2 g34 0 0 0 0 0 0 0 0, b2 g01 t01 (wrap64 (a28 - 8)) (wrap64 ((wrap64 (a28 - 8)) + 1)) t02 t05 t03 t09 0, b4 g32 t05 t05 t03, b3 g33 t11 2] w75) := ⟨HS.out.box hg hbox hb⟩
       clear hg hbox hb
       refine hK.out _ _ (⟨blk_cellv (HS.out.at2) 4 rfl, blk_cellv (HS.out.at2) 5 rfl, blk_cellv (HS.out.at0) 3 rfl⟩) (fun hHeld => ?_)
       clear hK K
       refine norm_ (a' := ?_) ?_ ?_
       rotate_left
       ·show Act.put _ (some 78) _ = _
        simp only [Act.put, List.setIfInBounds_toArray, List.set_cons_zero, List.set_cons_succ, i64_w, i32_w]
        rfl
       refine one_ (i := 12) (N := some 79) #[true, true, true, true, true, true, true, true, true, true, true, true, true, false, false] rfl rfl (by kernel_rfl) (by decide) (fun K hK => ?_)
       obtain ⟨t12, HA12, H⟩ := bind_some H
       refine goes_ Try.func106 (by kernel_rfl) rfl #[.slice (some ⟨g33, 0, none⟩) 2 2] (by rfl) rfl rfl (by (try simp only [List.map_toArray, List.map_cons, List.map_nil]); first | done | rfl) ?_
       refine (ratio_Add.calls _ [t11, 2] (some ⟨g33, 0, none⟩) 2 t12 _ ⟨Rd.lit (l := []) (xs := [t11, 2]) HS.out 4 rfl (by simp)⟩ ⟨Sep.start _⟩ HA12).mono ?_
       rintro e_ w76 ⟨rfl, hS⟩
       replace HS : Aside0 (Sep (fps []) w [b1 g31 a27 a28 a29 a30, b2 g34 0 0 0 0 0 0 0 0, b2 g01 t01 (wrap64 (a28 - 8)) (wrap64 ((wrap64 (a28 - 8)) + 1)) t02 t05 t03 t09 0, b4 g32 t05 t05 t03, b3 g33 t11 2] w76) := ⟨HS.out.call hS⟩
       clear hS
       refine ⟨_, rfl, ?_⟩
       refine hK.out _ _ (⟨blk_cellv (HS.out.at2) 4 rfl, blk_cellv (HS.out.at2) 5 rfl, blk_cellv (HS.out.at0) 3 rfl⟩) (fun hHeld => ?_)
       clear hK K
       refine norm_ (a' := ?_) ?_ ?_
       rotate_left
       ·show Act.put _ (some 79) _ = _
        simp only [Act.put, List.setIfInBounds_toArray, List.set_cons_zero, List.set_cons_succ, i64_w, i32_w]
        rfl
       refine pure_ (i := 13) (N := some 80) (v := ?_) (a' := ?_) #[true, true, true, true, true, true, true, true, true, true, true, true, true, true, false] rfl rfl (by kernel_rfl) (fun _ _ _ h => h) (Or.inl ⟨by rfl, ?_⟩) ?_ ?_
       rotate_left
       ·intro w'
        go_simp
        with_reducible rfl
       rotate_left
       ·simp only [Act.put, List.setIfInBounds_toArray, List.set_cons_zero, List.set_cons_succ, i64_w, i32_w]
        rfl
       refine one_ (i := 14) (N := none) #[true, true, true, true, true, true, true, true, true, true, true, true, true, true, true] rfl rfl (by kernel_rfl) (by decide) (fun K hK => ?_)
       have hc58 := blk_cellv (v := .int .i64 0) (HS.out.at2) 7 rfl
       have hz48 := blk_fz (HS.out.at2) 7
       refine store_step (w1 := (World.setCell w76 ⟨g01, 7, none⟩ (.int .i64 t12))) (by rfl) rfl ?hr ?_
       case hr => first | (go_simp; done) | (go_simp; rfl)
       clear hc58 hz48
       intro w77 hst
       have hq0 : Sep (fps []) w [b1 g31 a27 a28 a29 a30, b2 g34 0 0 0 0 0 0 0 0, b2 g01 t01 (wrap64 (a28 - 8)) (wrap64 ((wrap64 (a28 - 8)) + 1)) t02 t05 t03 t09 t12, b4 g32 t05 t05 t03, b3 g33 t11 2] (World.setCell w76 ⟨g01, 7, none⟩ (.int .i64 t12)) := (HS.out).set1 (l1 := [b1 g31 a27 a28 a29 a30, b2 g34 0 0 0 0 0 0 0 0]) (l2 := [b4 g32 t05 t05 t03, b3 g33 t11 2]) 7 (.int .i64 t12)
       have HS_ : Aside0 (Sep (fps []) w [b1 g31 a27 a28 a29 a30, b2 g34 0 0 0 0 0 0 0 0, b2 g01 t01 (wrap64 (a28 - 8)) (wrap64 ((wrap64 (a28 - 8)) + 1)) t02 t05 t03 t09 t12, b4 g32 t05 t05 t03, b3 g33 t11 2] w77) := ⟨by rw [hst]; exact hq0⟩
       clear hq0
       clear HS hst
       have HS := HS_
       clear HS_
       refine hK.out _ _ (⟨blk_cellv (HS.out.at2) 4 rfl, blk_cellv (HS.out.at2) 5 rfl, blk_cellv (HS.out.at0) 3 rfl⟩) (fun hHeld => ?_)
       clear hK K
       refine done_ (by kernel_rfl) ?_
       replace HS : Aside0 (Sep (fps []) w [b2 g34 0 0 0 0 0 0 0 0, b2 g01 t01 (wrap64 (a28 - 8)) (wrap64 ((wrap64 (a28 - 8)) + 1)) t02 t05 t03 t09 t12] w77) := ⟨HS.out.sub (.cons _ (.cons_cons _ (.cons_cons _ (.cons _ (.cons _ .slnil)))))⟩
       have hc59 : w77.cell? ⟨g01, 0, none⟩ = some (.int .i64 t01) := blk_cellv (HS.out.at1) 0 rfl
       have hc60 : w77.cell? ⟨g01, 1, none⟩ = some (.int .i64 (wrap64 (a28 - 8))) := blk_cellv (HS.out.at1) 1 rfl
       have hc61 : w77.cell? ⟨g01, 2, none⟩ = some (.int .i64 (wrap64 ((wrap64 (a28 - 8)) + 1))) := blk_cellv (HS.out.at1) 2 rfl
       have hc62 : w77.cell? ⟨g01, 3, none⟩ = some (.int .i64 t02) := blk_cellv (HS.out.at1) 3 rfl
       have hc63 : w77.cell? ⟨g01, 4, none⟩ = some (.int .i64 t05) := blk_cellv (HS.out.at1) 4 rfl
       have hc64 : w77.cell? ⟨g01, 5, none⟩ = some (.int .i64 t03) := blk_cellv (HS.out.at1) 5 rfl
       have hc65 : w77.cell? ⟨g01, 6, none⟩ = some (.int .i64 t09) := blk_cellv (HS.out.at1) 6 rfl
       have hc66 : w77.cell? ⟨g01, 7, none⟩ = some (.int .i64 t12) := blk_cellv (HS.out.at1) 7 rfl
       have hc67 : w77.cell? ⟨g34, 0, none⟩ = some (.int .i64 0) := blk_cellv (HS.out.at0) 0 rfl
       have hz49 : w77.frozen? ⟨g34, 0, none⟩ = false := blk_fz (HS.out.at0) 0
       have hc68 : w77.cell? ⟨g34, 1, none⟩ = some (.int .i64 0) := blk_cellv (HS.out.at0) 1 rfl
       have hz50 : w77.frozen? ⟨g34, 1, none⟩ = false := blk_fz (HS.out.at0) 1
       have hc69 : w77.cell? ⟨g34, 2, none⟩ = some (.int .i64 0) := blk_cellv (HS.out.at0) 2 rfl
       have hz51 : w77.frozen? ⟨g34, 2, none⟩ = false := blk_fz (HS.out.at0) 2
       have hc70 : w77.cell? ⟨g34, 3, none⟩ = some (.int .i64 0) := blk_cellv (HS.out.at0) 3 rfl
       have hz52 : w77.frozen? ⟨g34, 3, none⟩ = false := blk_fz (HS.out.at0) 3
       have hc71 : w77.cell? ⟨g34, 4, none⟩ = some (.int .i64 0) := blk_cellv (HS.out.at0) 4 rfl
       have hz53 : w77.frozen? ⟨g34, 4, none⟩ = false := blk_fz (HS.out.at0) 4
       have hc72 : w77.cell? ⟨g34, 5, none⟩ = some (.int .i64 0) := blk_cellv (HS.out.at0) 5 rfl
       have hz54 : w77.frozen? ⟨g34, 5, none⟩ = false := blk_fz (HS.out.at0) 5
       have hc73 : w77.cell? ⟨g34, 6, none⟩ = some (.int .i64 0) := blk_cellv (HS.out.at0) 6 rfl
       have hz55 : w77.frozen? ⟨g34, 6, none⟩ = false := blk_fz (HS.out.at0) 6
       have hc74 : w77.cell? ⟨g34, 7, none⟩ = some (.int .i64 0) := blk_cellv (HS.out.at0) 7 rfl
       have hz56 : w77.frozen? ⟨g34, 7, none⟩ = false := blk_fz (HS.out.at0) 7
       go_wp2_with (first | ((with_reducible refine gate_store (t := 120) (p := 2) rfl ?_); refine store_event (w1 := (World.setCell (World.setCell (World.setCell (World.setCell (World.setCell (World.setCell (World.setCell (World.setCell w77 ⟨g34, 0, none⟩ (.int .i64 t01)) ⟨g34, 1, none⟩ (.int .i64 (wrap64 (a28 - 8)))) ⟨g34, 2, none⟩ (.int .i64 (wrap64 ((wrap64 (a28 - 8)) + 1)))) ⟨g34, 3, none⟩ (.int .i64 t02)) ⟨g34, 4, none⟩ (.int .i64 t05)) ⟨g34, 5, none⟩ (.int .i64 t03)) ⟨g34, 6, none⟩ (.int .i64 t09)) ⟨g34, 7, none⟩ (.int .i64 t12))) rfl (t := 120) (p := 2) rfl rfl ?hr ?_; (case hr => first | (go_simp; done) | (go_simp; rfl)); intro w78 hst; clear hc59 hc60 hc61 hc62 hc63 hc64 hc65 hc66 hc67 hz49 hc68 hz50 hc69 hz51 hc70 hz52 hc71 hz53 hc72 hz54 hc73 hz55 hc74 hz56; replace HS : Aside0 (Sep (fps []) w [b2 g34 t01 (wrap64 (a28 - 8)) (wrap64 ((wrap64 (a28 - 8)) + 1)) t02 t05 t03 t09 t12, b2 g01 t01 (wrap64 (a28 - 8)) (wrap64 ((wrap64 (a28 - 8)) + 1)) t02 t05 t03 t09 t12] w78) := ⟨by rw [hst]; exact HS.out.setAll (l1 := []) (l2 := [b2 g01 t01 (wrap64 (a28 - 8)) (wrap64 ((wrap64 (a28 - 8)) + 1)) t02 t05 t03 t09 t12]) [.int .i64 t01, .int .i64 (wrap64 (a28 - 8)), .int .i64 (wrap64 ((wrap64 (a28 - 8)) + 1)), .int .i64 t02, .int .i64 t05, .int .i64 t03, .int .i64 t09, .int .i64 t12] rfl⟩; clear hst; replace HS : Aside0 (Sep (fps []) w [b2 g34 t01 (wrap64 (a28 - 8)) (wrap64 ((wrap64 (a28 - 8)) + 1)) t02 t05 t03 t09 t12] w78) := ⟨HS.out.sub (.cons_cons _ (.cons _ .slnil))⟩))
       have hc75 : w78.cell? ⟨g34, 0, none⟩ = some (.int .i64 t01) := blk_cellv (HS.out.at0) 0 rfl
       have hc76 : w78.cell? ⟨g34, 1, none⟩ = some (.int .i64 (wrap64 (a28 - 8))) := blk_cellv (HS.out.at0) 1 rfl
       have hc77 : w78.cell? ⟨g34, 2, none⟩ = some (.int .i64 (wrap64 ((wrap64 (a28 - 8)) + 1))) := blk_cellv (HS.out.at0) 2 rfl
       have hc78 : w78.cell? ⟨g34, 3, none⟩ = some (.int .i64 t02) := blk_cellv (HS.out.at0) 3 rfl
       have hc79 : w78.cell? ⟨g34, 4, none⟩ = some (.int .i64 t05) := blk_cellv (HS.out.at0) 4 rfl
       have hc80 : w78.cell? ⟨g34, 5, none⟩ = some (.int .i64 t03) := blk_cellv (HS.out.at0) 5 rfl
       have hc81 : w78.cell? ⟨g34, 6, none⟩ = some (.int .i64 t09) := blk_cellv (HS.out.at0) 6 rfl
       have hc82 : w78.cell? ⟨g34, 7, none⟩ = some (.int .i64 t12) := blk_cellv (HS.out.at0) 7 rfl
       refine bodyPost_ret (v := .tuple #[.agg #[.int .i64 t01, .int .i64 (wrap64 (a28 - 8)), .int .i64 (wrap64 ((wrap64 (a28 - 8)) + 1)), .int .i64 t02, .int .i64 t05, .int .i64 t03, .int .i64 t09, .int .i64 t12], .int .i64 0]) (by simp [results, Try.results76, go_sem, hc75, hc76, hc77, hc78, hc79, hc80, hc81, hc82]) rfl ?_
       rw [← some_eq H]
       exact ⟨(by first | rfl | (simp [IntKind.wrap_u32]; done)), HS.out.sub (.cons _ .slnil)⟩
  ·replace H := if_no c85 H
   have c85b0 : (t82 == 0) = false := beq_eq_false_iff_ne.mpr c85
   have c85b1 : (t82 != 0) = true := bne_iff_ne.mpr c85
   clear c85
   have hc83 : w84.cell? ⟨g34, 0, none⟩ = some (.int .i64 0) := blk_cellv (HS.out.at1) 0 rfl
   have hz57 : w84.frozen? ⟨g34, 0, none⟩ = false := blk_fz (HS.out.at1) 0
   have hc84 : w84.cell? ⟨g34, 1, none⟩ = some (.int .i64 0) := blk_cellv (HS.out.at1) 1 rfl
   have hz58 : w84.frozen? ⟨g34, 1, none⟩ = false := blk_fz (HS.out.at1) 1
   have hc85 : w84.cell? ⟨g34, 2, none⟩ = some (.int .i64 0) := blk_cellv (HS.out.at1) 2 rfl
   have hz59 : w84.frozen? ⟨g34, 2, none⟩ = false := blk_fz (HS.out.at1) 2
   have hc86 : w84.cell? ⟨g34, 3, none⟩ = some (.int .i64 0) := blk_cellv (HS.out.at1) 3 rfl
   have hz60 : w84.frozen? ⟨g34, 3, none⟩ = false := blk_fz (HS.out.at1) 3
   have hc87 : w84.cell? ⟨g34, 4, none⟩ = some (.int .i64 0) := blk_cellv (HS.out.at1) 4 rfl
   have hz61 : w84.frozen? ⟨g34, 4, none⟩ = false := blk_fz (HS.out.at1) 4
   have hc88 : w84.cell? ⟨g34, 5, none⟩ = some (.int .i64 0) := blk_cellv (HS.out.at1) 5 rfl
   have hz62 : w84.frozen? ⟨g34, 5, none⟩ = false := blk_fz (HS.out.at1) 5
   have hc89 : w84.cell? ⟨g34, 6, none⟩ = some (.int .i64 0) := blk_cellv (HS.out.at1) 6 rfl
   have hz63 : w84.frozen? ⟨g34, 6, none⟩ = false := blk_fz (HS.out.at1) 6
   have hc90 : w84.cell? ⟨g34, 7, none⟩ = some (.int .i64 0) := blk_cellv (HS.out.at1) 7 rfl
   have hz64 : w84.frozen? ⟨g34, 7, none⟩ = false := blk_fz (HS.out.at1) 7
   go_wp2_with (first | ((with_reducible refine gate_store (t := 120) (p := 2) rfl ?_); refine store_event (w1 := (World.setCell (World.setCell (World.setCell (World.setCell (World.setCell (World.setCell (World.setCell (World.setCell w84 ⟨g34, 0, none⟩ (.int .i64 0)) ⟨g34, 1, none⟩ (.int .i64 0)) ⟨g34, 2, none⟩ (.int .i64 0)) ⟨g34, 3, none⟩ (.int .i64 0)) ⟨g34, 4, none⟩ (.int .i64 0)) ⟨g34, 5, none⟩ (.int .i64 0)) ⟨g34, 6, none⟩ (.int .i64 0)) ⟨g34, 7, none⟩ (.int .i64 0))) rfl (t := 120) (p := 2) rfl rfl ?hr ?_; (case hr => first | (go_simp; done) | (go_simp; rfl)); intro w79 hst; clear hc83 hz57 hc84 hz58 hc85 hz59 hc86 hz60 hc87 hz61 hc88 hz62 hc89 hz63 hc90 hz64; replace HS : Aside0 (Sep (fps []) w [b1 g31 a27 a28 a29 a30, b2 g34 0 0 0 0 0 0 0 0] w79) := ⟨by rw [hst]; exact HS.out.setAll (l1 := [b1 g31 a27 a28 a29 a30]) (l2 := []) [.int .i64 0, .int .i64 0, .int .i64 0, .int .i64 0, .int .i64 0, .int .i64 0, .int .i64 0, .int .i64 0] rfl⟩; clear hst; replace HS : Aside0 (Sep (fps []) w [b2 g34 0 0 0 0 0 0 0 0] w79) := ⟨HS.out.sub (.cons _ (.cons_cons _ .slnil))⟩))
   have hc91 : w79.cell? ⟨g34, 0, none⟩ = some (.int .i64 0) := blk_cellv (HS.out.at0) 0 rfl
   have hc92 : w79.cell? ⟨g34, 1, none⟩ = some (.int .i64 0) := blk_cellv (HS.out.at0) 1 rfl
   have hc93 : w79.cell? ⟨g34, 2, none⟩ = some (.int .i64 0) := blk_cellv (HS.out.at0) 2 rfl
   have hc94 : w79.cell? ⟨g34, 3, none⟩ = some (.int .i64 0) := blk_cellv (HS.out.at0) 3 rfl
   have hc95 : w79.cell? ⟨g34, 4, none⟩ = some (.int .i64 0) := blk_cellv (HS.out.at0) 4 rfl
   have hc96 : w79.cell? ⟨g34, 5, none⟩ = some (.int .i64 0) := blk_cellv (HS.out.at0) 5 rfl
   have hc97 : w79.cell? ⟨g34, 6, none⟩ = some (.int .i64 0) := blk_cellv (HS.out.at0) 6 rfl
   have hc98 : w79.cell? ⟨g34, 7, none⟩ = some (.int .i64 0) := blk_cellv (HS.out.at0) 7 rfl
   refine bodyPost_ret (v := .tuple #[.agg #[.int .i64 0, .int .i64 0, .int .i64 0, .int .i64 0, .int .i64 0, .int .i64 0, .int .i64 0, .int .i64 0], .int .i64 t82]) (by simp [results, Try.results76, go_sem, hc91, hc92, hc93, hc94, hc95, hc96, hc97, hc98]) rfl ?_
   rw [← some_eq H]
   exact ⟨(by first | rfl | (simp [IntKind.wrap_u32]; done)), HS.out.sub (.cons _ .slnil)⟩

set_option maxHeartbeats 30000000 in
set_option maxRecDepth 100000 in
theorem store_New.calls (a00 : Int) (r : Unit ⊕ (List Int)) (w : World)   (HS : Aside0 (Sep (fps []) w [] w)) (H : Aside0 (store_New.f a00 = some r)) :
    Calls Try.prog 17 #[.int .i64 a00] w fun e w' => Sum.elim (fun (r : Unit) => e = .returned (.tuple #[.pointer none, .int .i64 2]) ∧ Sep (fps []) w [] w') (fun (r : List Int) => ∃ (g00 : Nat), e = .returned (.tuple #[.pointer (some ⟨g00, 0, none⟩), .int .i64 0]) ∧ ∃ (A00 : Option Addr) (m00 : Nat) (n00 : Nat), Sep (fps []) w [b6 g00 A00 m00 n00 0, r5 A00 m00 n00 r] w') r := by
  unfold store_New.f at H
  go_enter Try.func17, Try.ntmps17
  by_cases c00 : a00 < 0
  ·replace H := if_yes c00 H
   have c00b0 : decide (a00 < 0) = true := decide_eq_true c00
   clear c00
   go_wp2_with fail
   go_ret2
   rw [← some_eq H]
   exact ⟨(by first | rfl | (simp [IntKind.wrap_u32]; done)), HS.out⟩
  ·replace H := if_no c00 H
   have c00b0 : decide (a00 < 0) = false := decide_eq_false c00
   clear c00
   by_cases c01 : a00 > 8388608
   ·replace H := if_yes c01 H
    have c01b0 : decide (8388608 < a00) = true := decide_eq_true c01
    clear c01
    go_wp2_with fail
    go_ret2
    rw [← some_eq H]
    exact ⟨(by first | rfl | (simp [IntKind.wrap_u32]; done)), HS.out⟩
   ·replace H := if_no c01 H
    have c01b0 : decide (8388608 < a00) = false := decide_eq_false c01
    clear c01
    obtain ⟨m01, HA00, H⟩ := bind_some H
    obtain ⟨hm00, hn00⟩ := mkLen_eq HA00
    have hm630H := Aside0.mk hm00
    clear hm00
    go_wp2_with (first | ((with_reducible refine gate_dst (N := 11) rfl ?_); refine make_event rfl (N := 11) rfl 22 23 (.tmp 10) (.tmp 10) rfl .i64 (.int .u32 0) 4 Try.underlying22 (by kernel_rfl) rfl (by decide) (Value.int .u32) 0 rfl m01 (by show Value.int _ _ = _; rw [hm630H.out]) (by show Value.int _ _ = _; rw [hm630H.out]) (by omega) HS.out ?_; intro g01 w00 HS1; replace HS : Aside0 (Sep (fps []) w [r5 (some ⟨g01, 0, none⟩) m01 m01 (List.replicate m01 (0 : Int))] w00) := ⟨HS1⟩; clear HS1) | ((with_reducible refine gate_dst (N := 13) rfl ?_); refine box_on ?hg (N := 13) ?hd (cs := #[.slice (some ⟨g01, 0, none⟩) m01 m01, .int .u64 0]) (t := 115) ?hr ?_; (case hd => rfl); (case hg => rfl); (case hr => first | (go_simp; done) | (go_simp; rfl)); intro g02 hg w01 hbox hb; replace HS : Aside0 (Sep (fps []) w [r5 (some ⟨g01, 0, none⟩) m01 m01 (List.replicate m01 (0 : Int)), b6 g02 (some ⟨g01, 0, none⟩) m01 m01 0] w01) := ⟨HS.out.box hg hbox hb⟩; clear hg hbox hb))
    go_ret2
    rw [← some_eq H]
    exact ⟨g02, (by first | rfl | (simp [IntKind.wrap_u32]; done)), (some ⟨g01, 0, none⟩), m01, m01, ((HS.out).front 1 (by simp)).keep (l := [b6 g02 (some ⟨g01, 0, none⟩) m01 m01 0, r5 (some ⟨g01, 0, none⟩) m01 m01 (List.replicate m01 (0 : Int))]) (rest := [])⟩

set_option maxHeartbeats 30000000 in
set_option maxRecDepth 100000 in
theorem ground_New.calls (k : Nat) (a16 : Int) (a17 : Int) (a18 : Int) (a19 : Int) (r : Unit ⊕ ((Int × Int × Int × Int × List Int) ⊕ Int)) (w : World)   (HS : Aside0 (Sep (fps []) w [] w)) (H : Aside0 (ground_New.f k a16 a17 a18 a19 = some r)) :
    Calls Try.prog 29 #[.agg #[.int .i64 a16, .int .i64 a17, .int .i64 a18, .int .i64 a19]] w fun e w' => Sum.elim (fun (r : Unit) => e = .returned (.tuple #[.pointer none, .int .i64 2]) ∧ Sep (fps []) w [] w') (fun (r_ : (Int × Int × Int × Int × List Int) ⊕ Int) => Sum.elim (fun (r : Int × Int × Int × Int × List Int) => ∃ (g00 : Nat), e = .returned (.tuple #[.pointer (some ⟨g00, 0, none⟩), .int .i64 0]) ∧ ∃ (g01 : Nat) (A00 : Option Addr) (m00 : Nat) (n00 : Nat), Sep (fps []) w [b7 g00 g01 r.1 r.2.1 r.2.2.1 r.2.2.2.1, b6 g01 A00 m00 n00 0, r5 A00 m00 n00 r.2.2.2.2] w') (fun (r : Int) => e = .returned (.tuple #[.pointer none, .int .i64 r]) ∧ Sep (fps []) w [] w') r_) r := by
  unfold ground_New.f at H
  go_enter Try.func29, Try.ntmps29
  go_wp2_with (first | ((with_reducible refine gate_dst (N := 1) rfl ?_); refine box_on ?hg (N := 1) ?hd (cs := #[.int .i64 a16, .int .i64 a17, .int .i64 a18, .int .i64 a19]) (t := 49) ?hr ?_; (case hd => rfl); (case hg => rfl); (case hr => first | (go_simp; done) | (go_simp; rfl)); intro g02 hg w00 hbox hb; replace HS : Aside0 (Sep (fps []) w [b1 g02 a16 a17 a18 a19] w00) := ⟨HS.out.box hg hbox hb⟩; clear hg hbox hb; have hc00 : w00.cell? ⟨g02, 0, none⟩ = some (.int .i64 a16) := blk_cellv (HS.out.at0) 0 rfl; have hc01 : w00.cell? ⟨g02, 1, none⟩ = some (.int .i64 a17) := blk_cellv (HS.out.at0) 1 rfl; have hc02 : w00.cell? ⟨g02, 2, none⟩ = some (.int .i64 a18) := blk_cellv (HS.out.at0) 2 rfl; have hc03 : w00.cell? ⟨g02, 3, none⟩ = some (.int .i64 a19) := blk_cellv (HS.out.at0) 3 rfl))
  clear hc00 hc01 hc02 hc03
  obtain ⟨t00, HA00, H⟩ := bind_some H
  refine (plan_Of.calls _ a16 a17 a18 a19 t00 _ ⟨Sep.start _⟩ HA00).mono ?_
  rintro e_ w01 ⟨rfl, hS⟩
  replace HS : Aside0 (Sep (fps []) w [b1 g02 a16 a17 a18 a19] w01) := ⟨HS.out.call hS⟩
  clear hS
  by_cases c00 : t00.2.2.2.2.2.2.2.2 = 0
  ·replace H := if_yes c00 H
   have c00b0 : (t00.2.2.2.2.2.2.2.2 == 0) = true := beq_iff_eq.mpr c00
   have c00b1 : (t00.2.2.2.2.2.2.2.2 != 0) = false := bne_eq_false_iff_eq.mpr c00
   clear c00
   go_wp2_with (first | ((with_reducible refine gate_dst (N := 4) rfl ?_); refine box_on ?hg (N := 4) ?hd (cs := #[.int .i64 0, .int .i64 0, .int .i64 0, .int .i64 0, .int .i64 0, .int .i64 0, .int .i64 0, .int .i64 0]) (t := 120) ?hr ?_; (case hd => rfl); (case hg => rfl); (case hr => first | (go_simp; done) | (go_simp; rfl)); intro g03 hg w02 hbox hb; replace HS : Aside0 (Sep (fps []) w [b1 g02 a16 a17 a18 a19, b2 g03 0 0 0 0 0 0 0 0] w02) := ⟨HS.out.box hg hbox hb⟩; clear hg hbox hb; have hc04 : w02.cell? ⟨g03, 0, none⟩ = some (.int .i64 0) := blk_cellv (HS.out.at1) 0 rfl; have hz00 : w02.frozen? ⟨g03, 0, none⟩ = false := blk_fz (HS.out.at1) 0; have hc05 : w02.cell? ⟨g03, 1, none⟩ = some (.int .i64 0) := blk_cellv (HS.out.at1) 1 rfl; have hz01 : w02.frozen? ⟨g03, 1, none⟩ = false := blk_fz (HS.out.at1) 1; have hc06 : w02.cell? ⟨g03, 2, none⟩ = some (.int .i64 0) := blk_cellv (HS.out.at1) 2 rfl; have hz02 : w02.frozen? ⟨g03, 2, none⟩ = false := blk_fz (HS.out.at1) 2; have hc07 : w02.cell? ⟨g03, 3, none⟩ = some (.int .i64 0) := blk_cellv (HS.out.at1) 3 rfl; have hz03 : w02.frozen? ⟨g03, 3, none⟩ = false := blk_fz (HS.out.at1) 3; have hc08 : w02.cell? ⟨g03, 4, none⟩ = some (.int .i64 0) := blk_cellv (HS.out.at1) 4 rfl; have hz04 : w02.frozen? ⟨g03, 4, none⟩ = false := blk_fz (HS.out.at1) 4; have hc09 : w02.cell? ⟨g03, 5, none⟩ = some (.int .i64 0) := blk_cellv (HS.out.at1) 5 rfl; have hz05 : w02.frozen? ⟨g03, 5, none⟩ = false := blk_fz (HS.out.at1) 5; have hc10 : w02.cell? ⟨g03, 6, none⟩ = some (.int .i64 0) := blk_cellv (HS.out.at1) 6 rfl; have hz06 : w02.frozen? ⟨g03, 6, none⟩ = false := blk_fz (HS.out.at1) 6; have hc11 : w02.cell? ⟨g03, 7, none⟩ = some (.int .i64 0) := blk_cellv (HS.out.at1) 7 rfl; have hz07 : w02.frozen? ⟨g03, 7, none⟩ = false := blk_fz (HS.out.at1) 7) | ((with_reducible refine gate_store (t := 120) (p := 4) rfl ?_); refine store_event (w1 := (World.setCell (World.setCell (World.setCell (World.setCell (World.setCell (World.setCell (World.setCell (World.setCell w02 ⟨g03, 0, none⟩ (.int .i64 t00.1)) ⟨g03, 1, none⟩ (.int .i64 t00.2.1)) ⟨g03, 2, none⟩ (.int .i64 t00.2.2.1)) ⟨g03, 3, none⟩ (.int .i64 t00.2.2.2.1)) ⟨g03, 4, none⟩ (.int .i64 t00.2.2.2.2.1)) ⟨g03, 5, none⟩ (.int .i64 t00.2.2.2.2.2.1)) ⟨g03, 6, none⟩ (.int .i64 t00.2.2.2.2.2.2.1)) ⟨g03, 7, none⟩ (.int .i64 t00.2.2.2.2.2.2.2.1))) rfl (t := 120) (p := 4) rfl rfl ?hr ?_; (case hr => first | (go_simp; done) | (go_simp; rfl)); intro w03 hst; clear hc04 hz00 hc05 hz01 hc06 hz02 hc07 hz03 hc08 hz04 hc09 hz05 hc10 hz06 hc11 hz07; replace HS : Aside0 (Sep (fps []) w [b1 g02 a16 a17 a18 a19, b2 g03 t00.1 t00.2.1 t00.2.2.1 t00.2.2.2.1 t00.2.2.2.2.1 t00.2.2.2.2.2.1 t00.2.2.2.2.2.2.1 t00.2.2.2.2.2.2.2.1] w03) := ⟨by rw [hst]; exact HS.out.setAll (l1 := [b1 g02 a16 a17 a18 a19]) (l2 := []) [.int .i64 t00.1, .int .i64 t00.2.1, .int .i64 t00.2.2.1, .int .i64 t00.2.2.2.1, .int .i64 t00.2.2.2.2.1, .int .i64 t00.2.2.2.2.2.1, .int .i64 t00.2.2.2.2.2.2.1, .int .i64 t00.2.2.2.2.2.2.2.1] rfl⟩; clear hst; have hc12 : w03.cell? ⟨g03, 0, none⟩ = some (.int .i64 t00.1) := blk_cellv (HS.out.at1) 0 rfl))
   clear hc12
   obtain ⟨t01, HA01, H⟩ := bind_some H
   rcases t01 with t02 | t03
   ·have H := sum_l H
    refine (store_New.calls t00.1 (.inl t02) _ ⟨Sep.start _⟩ HA01).mono ?_
    rintro e_ w04 ⟨rfl, hS⟩
    replace HS : Aside0 (Sep (fps []) w [b1 g02 a16 a17 a18 a19, b2 g03 t00.1 t00.2.1 t00.2.2.1 t00.2.2.2.1 t00.2.2.2.2.1 t00.2.2.2.2.2.1 t00.2.2.2.2.2.2.1 t00.2.2.2.2.2.2.2.1] w04) := ⟨HS.out.call hS⟩
    clear hS
    replace HS : Aside0 (Sep (fps []) w [b1 g02 a16 a17 a18 a19] w04) := ⟨HS.out.sub (.cons_cons _ (.cons _ .slnil))⟩
    replace HS : Aside0 (Sep (fps []) w [] w04) := ⟨HS.out.sub (.cons _ .slnil)⟩
    go_wp2_with fail
    go_ret2
    rw [← some_eq H]
    exact ⟨(by first | rfl | (simp [IntKind.wrap_u32]; done)), HS.out⟩
   ·have H := sum_r H
    refine (store_New.calls t00.1 (.inr t03) _ ⟨Sep.start _⟩ HA01).mono ?_
    rintro e_ w05 ⟨g04, rfl, A01, m01, n01, hS⟩
    replace HS : Aside0 (Sep (fps []) w [b6 g04 A01 m01 n01 0, r5 A01 m01 n01 t03, b1 g02 a16 a17 a18 a19, b2 g03 t00.1 t00.2.1 t00.2.2.1 t00.2.2.2.1 t00.2.2.2.2.1 t00.2.2.2.2.2.1 t00.2.2.2.2.2.2.1 t00.2.2.2.2.2.2.2.1] w05) := ⟨HS.out.call hS⟩
    clear hS
    obtain rfl := (row_len (HS.out.at1)).symm
    replace HS : Aside0 (Sep (fps []) w [b6 g04 A01 t03.length n01 0, r5 A01 t03.length n01 t03, b1 g02 a16 a17 a18 a19] w05) := ⟨HS.out.sub (.cons_cons _ (.cons_cons _ (.cons_cons _ (.cons _ .slnil))))⟩
    have hc13 : w05.cell? ⟨g02, 0, none⟩ = some (.int .i64 a16) := blk_cellv (HS.out.at2) 0 rfl
    have hc14 : w05.cell? ⟨g02, 1, none⟩ = some (.int .i64 a17) := blk_cellv (HS.out.at2) 1 rfl
    have hc15 : w05.cell? ⟨g02, 2, none⟩ = some (.int .i64 a18) := blk_cellv (HS.out.at2) 2 rfl
    have hc16 : w05.cell? ⟨g02, 3, none⟩ = some (.int .i64 a19) := blk_cellv (HS.out.at2) 3 rfl
    go_wp2_with (first | ((with_reducible refine gate_dst (N := 28) rfl ?_); refine box_on ?hg (N := 28) ?hd (cs := #[.pointer (some ⟨g04, 0, none⟩), .int .i64 a16, .int .i64 a17, .int .i64 a18, .int .i64 a19]) (t := 126) ?hr ?_; (case hd => rfl); (case hg => rfl); (case hr => first | (go_simp; done) | (go_simp; rfl)); intro g05 hg w06 hbox hb; clear hc13 hc14 hc15 hc16; replace HS : Aside0 (Sep (fps []) w [b6 g04 A01 t03.length n01 0, r5 A01 t03.length n01 t03, b1 g02 a16 a17 a18 a19, b7 g05 g04 a16 a17 a18 a19] w06) := ⟨HS.out.box hg hbox hb⟩; clear hg hbox hb; replace HS : Aside0 (Sep (fps []) w [b6 g04 A01 t03.length n01 0, r5 A01 t03.length n01 t03, b7 g05 g04 a16 a17 a18 a19] w06) := ⟨HS.out.sub (.cons_cons _ (.cons_cons _ (.cons _ (.cons_cons _ .slnil))))⟩))
    go_ret2
    rw [← some_eq H]
    exact ⟨g05, (by first | rfl | (simp [IntKind.wrap_u32]; done)), g04, A01, t03.length, n01, ((((HS.out).front 1 (by simp)).front 1 (by simp)).front 2 (by simp)).keep (l := [b7 g05 g04 a16 a17 a18 a19, b6 g04 A01 t03.length n01 0, r5 A01 t03.length n01 t03]) (rest := [])⟩
  ·replace H := if_no c00 H
   have c00b0 : (t00.2.2.2.2.2.2.2.2 == 0) = false := beq_eq_false_iff_ne.mpr c00
   have c00b1 : (t00.2.2.2.2.2.2.2.2 != 0) = true := bne_iff_ne.mpr c00
   clear c00
   go_wp2_with (first | ((with_reducible refine gate_dst (N := 4) rfl ?_); refine box_on ?hg (N := 4) ?hd (cs := #[.int .i64 0, .int .i64 0, .int .i64 0, .int .i64 0, .int .i64 0, .int .i64 0, .int .i64 0, .int .i64 0]) (t := 120) ?hr ?_; (case hd => rfl); (case hg => rfl); (case hr => first | (go_simp; done) | (go_simp; rfl)); intro g03 hg w02 hbox hb; replace HS : Aside0 (Sep (fps []) w [b1 g02 a16 a17 a18 a19, b2 g03 0 0 0 0 0 0 0 0] w02) := ⟨HS.out.box hg hbox hb⟩; clear hg hbox hb; have hc04 : w02.cell? ⟨g03, 0, none⟩ = some (.int .i64 0) := blk_cellv (HS.out.at1) 0 rfl; have hz00 : w02.frozen? ⟨g03, 0, none⟩ = false := blk_fz (HS.out.at1) 0; have hc05 : w02.cell? ⟨g03, 1, none⟩ = some (.int .i64 0) := blk_cellv (HS.out.at1) 1 rfl; have hz01 : w02.frozen? ⟨g03, 1, none⟩ = false := blk_fz (HS.out.at1) 1; have hc06 : w02.cell? ⟨g03, 2, none⟩ = some (.int .i64 0) := blk_cellv (HS.out.at1) 2 rfl; have hz02 : w02.frozen? ⟨g03, 2, none⟩ = false := blk_fz (HS.out.at1) 2; have hc07 : w02.cell? ⟨g03, 3, none⟩ = some (.int .i64 0) := blk_cellv (HS.out.at1) 3 rfl; have hz03 : w02.frozen? ⟨g03, 3, none⟩ = false := blk_fz (HS.out.at1) 3; have hc08 : w02.cell? ⟨g03, 4, none⟩ = some (.int .i64 0) := blk_cellv (HS.out.at1) 4 rfl; have hz04 : w02.frozen? ⟨g03, 4, none⟩ = false := blk_fz (HS.out.at1) 4; have hc09 : w02.cell? ⟨g03, 5, none⟩ = some (.int .i64 0) := blk_cellv (HS.out.at1) 5 rfl; have hz05 : w02.frozen? ⟨g03, 5, none⟩ = false := blk_fz (HS.out.at1) 5; have hc10 : w02.cell? ⟨g03, 6, none⟩ = some (.int .i64 0) := blk_cellv (HS.out.at1) 6 rfl; have hz06 : w02.frozen? ⟨g03, 6, none⟩ = false := blk_fz (HS.out.at1) 6; have hc11 : w02.cell? ⟨g03, 7, none⟩ = some (.int .i64 0) := blk_cellv (HS.out.at1) 7 rfl; have hz07 : w02.frozen? ⟨g03, 7, none⟩ = false := blk_fz (HS.out.at1) 7) | ((with_reducible refine gate_store (t := 120) (p := 4) rfl ?_); refine store_event (w1 := (World.setCell (World.setCell (World.setCell (World.setCell (World.setCell (World.setCell (World.setCell (World.setCell w02 ⟨g03, 0, none⟩ (.int .i64 t00.1)) ⟨g03, 1, none⟩ (.int .i64 t00.2.1)) ⟨g03, 2, none⟩ (.int .i64 t00.2.2.1)) ⟨g03, 3, none⟩ (.int .i64 t00.2.2.2.1)) ⟨g03, 4, none⟩ (.int .i64 t00.2.2.2.2.1)) ⟨g03, 5, none⟩ (.int .i64 t00.2.2.2.2.2.1)) ⟨g03, 6, none⟩ (.int .i64 t00.2.2.2.2.2.2.1)) ⟨g03, 7, none⟩ (.int .i64 t00.2.2.2.2.2.2.2.1))) rfl (t := 120) (p := 4) rfl rfl ?hr ?_; (case hr => first | (go_simp; done) | (go_simp; rfl)); intro w03 hst; clear hc04 hz00 hc05 hz01 hc06 hz02 hc07 hz03 hc08 hz04 hc09 hz05 hc10 hz06 hc11 hz07; replace HS : Aside0 (Sep (fps []) w [b1 g02 a16 a17 a18 a19, b2 g03 t00.1 t00.2.1 t00.2.2.1 t00.2.2.2.1 t00.2.2.2.2.1 t00.2.2.2.2.2.1 t00.2.2.2.2.2.2.1 t00.2.2.2.2.2.2.2.1] w03) := ⟨by rw [hst]; exact HS.out.setAll (l1 := [b1 g02 a16 a17 a18 a19]) (l2 := []) [.int .i64 t00.1, .int .i64 t00.2.1, .int .i64 t00.2.2.1, .int .i64 t00.2.2.2.1, .int .i64 t00.2.2.2.2.1, .int .i64 t00.2.2.2.2.2.1, .int .i64 t00.2.2.2.2.2.2.1, .int .i64 t00.2.2.2.2.2.2.2.1] rfl⟩; clear hst; replace HS : Aside0 (Sep (fps []) w [] w03) := ⟨HS.out.sub (.cons _ (.cons _ .slnil))⟩))
   go_ret2
   rw [← some_eq H]
   exact ⟨(by first | rfl | (simp [IntKind.wrap_u32]; done)), HS.out⟩

set_option maxHeartbeats 30000000 in
set_option maxRecDepth 100000 in
theorem quitrentref03_May.calls (a00 : Int) (a01 : Int) (a02 : Int) (a03 : Int) (r : Bool) (w : World)   (HS : Aside0 (Sep (fps []) w [] w)) (H : Aside0 (quitrentref03_May.f a00 a01 a02 a03 = some r)) :
    Calls Try.prog 30 #[.agg #[.int .i64 a00, .int .i64 a01, .int .i64 a02, .int .i64 a03]] w fun e w' => e = .returned (.bool r) ∧ Sep (fps []) w [] w' := by
  unfold quitrentref03_May.f at H
  go_enter Try.func30, Try.ntmps30
  by_cases c00 : a00 < 1
  ·replace H := if_yes c00 H
   have c00b0 : decide (a00 < 1) = true := decide_eq_true c00
   clear c00
   go_wp2_with (first | ((with_reducible refine gate_dst (N := 1) rfl ?_); refine box_on ?hg (N := 1) ?hd (cs := #[.int .i64 a00, .int .i64 a01, .int .i64 a02, .int .i64 a03]) (t := 49) ?hr ?_; (case hd => rfl); (case hg => rfl); (case hr => first | (go_simp; done) | (go_simp; rfl)); intro g00 hg w00 hbox hb; replace HS : Aside0 (Sep (fps []) w [b1 g00 a00 a01 a02 a03] w00) := ⟨HS.out.box hg hbox hb⟩; clear hg hbox hb; have hc00 : w00.cell? ⟨g00, 0, none⟩ = some (.int .i64 a00) := blk_cellv (HS.out.at0) 0 rfl; replace HS : Aside0 (Sep (fps []) w [] w00) := ⟨HS.out.sub (.cons _ .slnil)⟩))
   clear hc00
   go_ret
   rw [← some_eq H]
   exact ⟨(by first | rfl | (simp [IntKind.wrap_u32]; done)), HS.out⟩
  ·replace H := if_no c00 H
   have c00b0 : decide (a00 < 1) = false := decide_eq_false c00
   clear c00
   by_cases c01 : a00 > 1048576
   ·replace H := if_yes c01 H
    have c01b0 : decide (1048576 < a00) = true := decide_eq_true c01
    clear c01
    go_wp2_with (first | ((with_reducible refine gate_dst (N := 1) rfl ?_); refine box_on ?hg (N := 1) ?hd (cs := #[.int .i64 a00, .int .i64 a01, .int .i64 a02, .int .i64 a03]) (t := 49) ?hr ?_; (case hd => rfl); (case hg => rfl); (case hr => first | (go_simp; done) | (go_simp; rfl)); intro g00 hg w00 hbox hb; replace HS : Aside0 (Sep (fps []) w [b1 g00 a00 a01 a02 a03] w00) := ⟨HS.out.box hg hbox hb⟩; clear hg hbox hb; have hc00 : w00.cell? ⟨g00, 0, none⟩ = some (.int .i64 a00) := blk_cellv (HS.out.at0) 0 rfl; replace HS : Aside0 (Sep (fps []) w [] w00) := ⟨HS.out.sub (.cons _ .slnil)⟩))
    clear hc00
    go_ret
    rw [← some_eq H]
    exact ⟨(by first | rfl | (simp [IntKind.wrap_u32]; done)), HS.out⟩
   ·replace H := if_no c01 H
    have c01b0 : decide (1048576 < a00) = false := decide_eq_false c01
    clear c01
    by_cases c02 : a01 < 16
    ·replace H := if_yes c02 H
     have c02b0 : decide (a01 < 16) = true := decide_eq_true c02
     clear c02
     go_wp2_with (first | ((with_reducible refine gate_dst (N := 1) rfl ?_); refine box_on ?hg (N := 1) ?hd (cs := #[.int .i64 a00, .int .i64 a01, .int .i64 a02, .int .i64 a03]) (t := 49) ?hr ?_; (case hd => rfl); (case hg => rfl); (case hr => first | (go_simp; done) | (go_simp; rfl)); intro g00 hg w00 hbox hb; replace HS : Aside0 (Sep (fps []) w [b1 g00 a00 a01 a02 a03] w00) := ⟨HS.out.box hg hbox hb⟩; clear hg hbox hb; have hc00 : w00.cell? ⟨g00, 0, none⟩ = some (.int .i64 a00) := blk_cellv (HS.out.at0) 0 rfl; have hc01 : w00.cell? ⟨g00, 1, none⟩ = some (.int .i64 a01) := blk_cellv (HS.out.at0) 1 rfl; replace HS : Aside0 (Sep (fps []) w [] w00) := ⟨HS.out.sub (.cons _ .slnil)⟩))
     clear hc00 hc01
     go_ret
     rw [← some_eq H]
     exact ⟨(by first | rfl | (simp [IntKind.wrap_u32]; done)), HS.out⟩
    ·replace H := if_no c02 H
     have c02b0 : decide (a01 < 16) = false := decide_eq_false c02
     clear c02
     by_cases c03 : a01 > 256
     ·replace H := if_yes c03 H
      have c03b0 : decide (256 < a01) = true := decide_eq_true c03
      clear c03
      go_wp2_with (first | ((with_reducible refine gate_dst (N := 1) rfl ?_); refine box_on ?hg (N := 1) ?hd (cs := #[.int .i64 a00, .int .i64 a01, .int .i64 a02, .int .i64 a03]) (t := 49) ?hr ?_; (case hd => rfl); (case hg => rfl); (case hr => first | (go_simp; done) | (go_simp; rfl)); intro g00 hg w00 hbox hb; replace HS : Aside0 (Sep (fps []) w [b1 g00 a00 a01 a02 a03] w00) := ⟨HS.out.box hg hbox hb⟩; clear hg hbox hb; have hc00 : w00.cell? ⟨g00, 0, none⟩ = some (.int .i64 a00) := blk_cellv (HS.out.at0) 0 rfl; have hc01 : w00.cell? ⟨g00, 1, none⟩ = some (.int .i64 a01) := blk_cellv (HS.out.at0) 1 rfl; replace HS : Aside0 (Sep (fps []) w [] w00) := ⟨HS.out.sub (.cons _ .slnil)⟩))
      clear hc00 hc01
      go_ret
      rw [← some_eq H]
      exact ⟨(by first | rfl | (simp [IntKind.wrap_u32]; done)), HS.out⟩
     ·replace H := if_no c03 H
      have c03b0 : decide (256 < a01) = false := decide_eq_false c03
      clear c03
      by_cases c04 : a02 < 1
      ·replace H := if_yes c04 H
       have c04b0 : decide (a02 < 1) = true := decide_eq_true c04
       clear c04
       go_wp2_with (first | ((with_reducible refine gate_dst (N := 1) rfl ?_); refine box_on ?hg (N := 1) ?hd (cs := #[.int .i64 a00, .int .i64 a01, .int .i64 a02, .int .i64 a03]) (t := 49) ?hr ?_; (case hd => rfl); (case hg => rfl); (case hr => first | (go_simp; done) | (go_simp; rfl)); intro g00 hg w00 hbox hb; replace HS : Aside0 (Sep (fps []) w [b1 g00 a00 a01 a02 a03] w00) := ⟨HS.out.box hg hbox hb⟩; clear hg hbox hb; have hc00 : w00.cell? ⟨g00, 0, none⟩ = some (.int .i64 a00) := blk_cellv (HS.out.at0) 0 rfl; have hc01 : w00.cell? ⟨g00, 1, none⟩ = some (.int .i64 a01) := blk_cellv (HS.out.at0) 1 rfl; have hc02 : w00.cell? ⟨g00, 2, none⟩ = some (.int .i64 a02) := blk_cellv (HS.out.at0) 2 rfl; replace HS : Aside0 (Sep (fps []) w [] w00) := ⟨HS.out.sub (.cons _ .slnil)⟩))
       clear hc00 hc01 hc02
       go_ret
       rw [← some_eq H]
       exact ⟨(by first | rfl | (simp [IntKind.wrap_u32]; done)), HS.out⟩
      ·replace H := if_no c04 H
       have c04b0 : decide (a02 < 1) = false := decide_eq_false c04
       clear c04
       by_cases c05 : a02 > 4096
       ·replace H := if_yes c05 H
        have c05b0 : decide (4096 < a02) = true := decide_eq_true c05
        clear c05
        go_wp2_with (first | ((with_reducible refine gate_dst (N := 1) rfl ?_); refine box_on ?hg (N := 1) ?hd (cs := #[.int .i64 a00, .int .i64 a01, .int .i64 a02, .int .i64 a03]) (t := 49) ?hr ?_; (case hd => rfl); (case hg => rfl); (case hr => first | (go_simp; done) | (go_simp; rfl)); intro g00 hg w00 hbox hb; replace HS : Aside0 (Sep (fps []) w [b1 g00 a00 a01 a02 a03] w00) := ⟨HS.out.box hg hbox hb⟩; clear hg hbox hb; have hc00 : w00.cell? ⟨g00, 0, none⟩ = some (.int .i64 a00) := blk_cellv (HS.out.at0) 0 rfl; have hc01 : w00.cell? ⟨g00, 1, none⟩ = some (.int .i64 a01) := blk_cellv (HS.out.at0) 1 rfl; have hc02 : w00.cell? ⟨g00, 2, none⟩ = some (.int .i64 a02) := blk_cellv (HS.out.at0) 2 rfl; replace HS : Aside0 (Sep (fps []) w [] w00) := ⟨HS.out.sub (.cons _ .slnil)⟩))
        clear hc00 hc01 hc02
        go_ret
        rw [← some_eq H]
        exact ⟨(by first | rfl | (simp [IntKind.wrap_u32]; done)), HS.out⟩
       ·replace H := if_no c05 H
        have c05b0 : decide (4096 < a02) = false := decide_eq_false c05
        clear c05
        by_cases c06 : a03 < 1
        ·replace H := if_yes c06 H
         have c06b0 : decide (a03 < 1) = true := decide_eq_true c06
         clear c06
         go_wp2_with (first | ((with_reducible refine gate_dst (N := 1) rfl ?_); refine box_on ?hg (N := 1) ?hd (cs := #[.int .i64 a00, .int .i64 a01, .int .i64 a02, .int .i64 a03]) (t := 49) ?hr ?_; (case hd => rfl); (case hg => rfl); (case hr => first | (go_simp; done) | (go_simp; rfl)); intro g00 hg w00 hbox hb; replace HS : Aside0 (Sep (fps []) w [b1 g00 a00 a01 a02 a03] w00) := ⟨HS.out.box hg hbox hb⟩; clear hg hbox hb; have hc00 : w00.cell? ⟨g00, 0, none⟩ = some (.int .i64 a00) := blk_cellv (HS.out.at0) 0 rfl; have hc01 : w00.cell? ⟨g00, 1, none⟩ = some (.int .i64 a01) := blk_cellv (HS.out.at0) 1 rfl; have hc02 : w00.cell? ⟨g00, 2, none⟩ = some (.int .i64 a02) := blk_cellv (HS.out.at0) 2 rfl; have hc03 : w00.cell? ⟨g00, 3, none⟩ = some (.int .i64 a03) := blk_cellv (HS.out.at0) 3 rfl; replace HS : Aside0 (Sep (fps []) w [] w00) := ⟨HS.out.sub (.cons _ .slnil)⟩))
         clear hc00 hc01 hc02 hc03
         go_ret
         rw [← some_eq H]
         exact ⟨(by first | rfl | (simp [IntKind.wrap_u32]; done)), HS.out⟩
        ·replace H := if_no c06 H
         have c06b0 : decide (a03 < 1) = false := decide_eq_false c06
         clear c06
         by_cases c07 : a03 > 65536
         ·replace H := if_yes c07 H
          have c07b0 : decide (65536 < a03) = true := decide_eq_true c07
          clear c07
          go_wp2_with (first | ((with_reducible refine gate_dst (N := 1) rfl ?_); refine box_on ?hg (N := 1) ?hd (cs := #[.int .i64 a00, .int .i64 a01, .int .i64 a02, .int .i64 a03]) (t := 49) ?hr ?_; (case hd => rfl); (case hg => rfl); (case hr => first | (go_simp; done) | (go_simp; rfl)); intro g00 hg w00 hbox hb; replace HS : Aside0 (Sep (fps []) w [b1 g00 a00 a01 a02 a03] w00) := ⟨HS.out.box hg hbox hb⟩; clear hg hbox hb; have hc00 : w00.cell? ⟨g00, 0, none⟩ = some (.int .i64 a00) := blk_cellv (HS.out.at0) 0 rfl; have hc01 : w00.cell? ⟨g00, 1, none⟩ = some (.int .i64 a01) := blk_cellv (HS.out.at0) 1 rfl; have hc02 : w00.cell? ⟨g00, 2, none⟩ = some (.int .i64 a02) := blk_cellv (HS.out.at0) 2 rfl; have hc03 : w00.cell? ⟨g00, 3, none⟩ = some (.int .i64 a03) := blk_cellv (HS.out.at0) 3 rfl; replace HS : Aside0 (Sep (fps []) w [] w00) := ⟨HS.out.sub (.cons _ .slnil)⟩))
          clear hc00 hc01 hc02 hc03
          go_ret
          rw [← some_eq H]
          exact ⟨(by first | rfl | (simp [IntKind.wrap_u32]; done)), HS.out⟩
         ·replace H := if_no c07 H
          have c07b0 : decide (65536 < a03) = false := decide_eq_false c07
          clear c07
          go_wp2_with (first | ((with_reducible refine gate_dst (N := 1) rfl ?_); refine box_on ?hg (N := 1) ?hd (cs := #[.int .i64 a00, .int .i64 a01, .int .i64 a02, .int .i64 a03]) (t := 49) ?hr ?_; (case hd => rfl); (case hg => rfl); (case hr => first | (go_simp; done) | (go_simp; rfl)); intro g00 hg w00 hbox hb; replace HS : Aside0 (Sep (fps []) w [b1 g00 a00 a01 a02 a03] w00) := ⟨HS.out.box hg hbox hb⟩; clear hg hbox hb; have hc00 : w00.cell? ⟨g00, 0, none⟩ = some (.int .i64 a00) := blk_cellv (HS.out.at0) 0 rfl; have hc01 : w00.cell? ⟨g00, 1, none⟩ = some (.int .i64 a01) := blk_cellv (HS.out.at0) 1 rfl; have hc02 : w00.cell? ⟨g00, 2, none⟩ = some (.int .i64 a02) := blk_cellv (HS.out.at0) 2 rfl; have hc03 : w00.cell? ⟨g00, 3, none⟩ = some (.int .i64 a03) := blk_cellv (HS.out.at0) 3 rfl; replace HS : Aside0 (Sep (fps []) w [] w00) := ⟨HS.out.sub (.cons _ .slnil)⟩))
          clear hc00 hc01 hc02 hc03
          go_ret
          rw [← some_eq H]
          exact ⟨(by first | rfl | (simp [IntKind.wrap_u32]; done)), HS.out⟩

set_option maxHeartbeats 30000000 in
set_option maxRecDepth 100000 in
theorem quitrentref05_Little.calls (a00 : Int) (a01 : Int) (a02 : Int) (a03 : Int) (r : Bool) (w : World)   (HS : Aside0 (Sep (fps []) w [] w)) (H : Aside0 (quitrentref05_Little.f a00 a01 a02 a03 = some r)) :
    Calls Try.prog 32 #[.agg #[.int .i64 a00, .int .i64 a01, .int .i64 a02, .int .i64 a03]] w fun e w' => e = .returned (.bool r) ∧ Sep (fps []) w [] w' := by
  unfold quitrentref05_Little.f at H
  go_enter Try.func32, Try.ntmps32
  by_cases c00 : a00 ≤ 300
  ·replace H := if_yes c00 H
   have c00b0 : decide (a00 ≤ 300) = true := decide_eq_true c00
   clear c00
   by_cases c01 : a01 ≤ 64
   ·replace H := if_yes c01 H
    have c01b0 : decide (a01 ≤ 64) = true := decide_eq_true c01
    clear c01
    go_wp2_with (first | ((with_reducible refine gate_dst (N := 1) rfl ?_); refine box_on ?hg (N := 1) ?hd (cs := #[.int .i64 a00, .int .i64 a01, .int .i64 a02, .int .i64 a03]) (t := 49) ?hr ?_; (case hd => rfl); (case hg => rfl); (case hr => first | (go_simp; done) | (go_simp; rfl)); intro g00 hg w00 hbox hb; replace HS : Aside0 (Sep (fps []) w [b1 g00 a00 a01 a02 a03] w00) := ⟨HS.out.box hg hbox hb⟩; clear hg hbox hb; have hc00 : w00.cell? ⟨g00, 0, none⟩ = some (.int .i64 a00) := blk_cellv (HS.out.at0) 0 rfl; have hc01 : w00.cell? ⟨g00, 1, none⟩ = some (.int .i64 a01) := blk_cellv (HS.out.at0) 1 rfl; have hc02 : w00.cell? ⟨g00, 2, none⟩ = some (.int .i64 a02) := blk_cellv (HS.out.at0) 2 rfl; replace HS : Aside0 (Sep (fps []) w [] w00) := ⟨HS.out.sub (.cons _ .slnil)⟩))
    clear hc00 hc01 hc02
    go_ret
    rw [← some_eq H]
    exact ⟨(by first | rfl | (simp [IntKind.wrap_u32]; done)), HS.out⟩
   ·replace H := if_no c01 H
    have c01b0 : decide (a01 ≤ 64) = false := decide_eq_false c01
    clear c01
    go_wp2_with (first | ((with_reducible refine gate_dst (N := 1) rfl ?_); refine box_on ?hg (N := 1) ?hd (cs := #[.int .i64 a00, .int .i64 a01, .int .i64 a02, .int .i64 a03]) (t := 49) ?hr ?_; (case hd => rfl); (case hg => rfl); (case hr => first | (go_simp; done) | (go_simp; rfl)); intro g00 hg w00 hbox hb; replace HS : Aside0 (Sep (fps []) w [b1 g00 a00 a01 a02 a03] w00) := ⟨HS.out.box hg hbox hb⟩; clear hg hbox hb; have hc00 : w00.cell? ⟨g00, 0, none⟩ = some (.int .i64 a00) := blk_cellv (HS.out.at0) 0 rfl; have hc01 : w00.cell? ⟨g00, 1, none⟩ = some (.int .i64 a01) := blk_cellv (HS.out.at0) 1 rfl; replace HS : Aside0 (Sep (fps []) w [] w00) := ⟨HS.out.sub (.cons _ .slnil)⟩))
    clear hc00 hc01
    go_ret
    rw [← some_eq H]
    exact ⟨(by first | rfl | (simp [IntKind.wrap_u32]; done)), HS.out⟩
  ·replace H := if_no c00 H
   have c00b0 : decide (a00 ≤ 300) = false := decide_eq_false c00
   clear c00
   go_wp2_with (first | ((with_reducible refine gate_dst (N := 1) rfl ?_); refine box_on ?hg (N := 1) ?hd (cs := #[.int .i64 a00, .int .i64 a01, .int .i64 a02, .int .i64 a03]) (t := 49) ?hr ?_; (case hd => rfl); (case hg => rfl); (case hr => first | (go_simp; done) | (go_simp; rfl)); intro g00 hg w00 hbox hb; replace HS : Aside0 (Sep (fps []) w [b1 g00 a00 a01 a02 a03] w00) := ⟨HS.out.box hg hbox hb⟩; clear hg hbox hb; have hc00 : w00.cell? ⟨g00, 0, none⟩ = some (.int .i64 a00) := blk_cellv (HS.out.at0) 0 rfl; replace HS : Aside0 (Sep (fps []) w [] w00) := ⟨HS.out.sub (.cons _ .slnil)⟩))
   clear hc00
   go_ret
   rw [← some_eq H]
   exact ⟨(by first | rfl | (simp [IntKind.wrap_u32]; done)), HS.out⟩

set_option maxHeartbeats 30000000 in
set_option maxRecDepth 100000 in
theorem chain_of.calls (l00 : List Int) (a00 : Int) (a01 : Int) (a02 : Int) (a03 : Int) (a04 : Int) (a05 : Int) (g00 : Nat) (g01 : Nat) (A00 : Option Addr) (m00 : Nat) (n00 : Nat) (r : Int × Int × Int × Bool) (w : World)   (HS : Aside0 (Sep (fps [b7 g00 g01 a01 a02 a03 a04, b6 g01 A00 m00 n00 a00, r5 A00 m00 n00 l00]) w [b7 g00 g01 a01 a02 a03 a04, b6 g01 A00 m00 n00 a00, r5 A00 m00 n00 l00] w)) (H : Aside0 (chain_of.f l00 a00 a01 a02 a03 a04 a05 = some r)) :
    Calls Try.prog 91 #[.pointer (some ⟨g00, 0, none⟩), .int .i64 a05] w fun e w' => e = .returned (.tuple #[.agg #[.int .i64 r.1, .int .i64 r.2.1, .int .i64 r.2.2.1], .bool r.2.2.2]) ∧ Sep (fps [b7 g00 g01 a01 a02 a03 a04, b6 g01 A00 m00 n00 a00, r5 A00 m00 n00 l00]) w [b7 g00 g01 a01 a02 a03 a04, b6 g01 A00 m00 n00 a00, r5 A00 m00 n00 l00] w' := by
  generalize (fps [b7 g00 g01 a01 a02 a03 a04, b6 g01 A00 m00 n00 a00, r5 A00 m00 n00 l00]) = FF at HS ⊢
  obtain rfl := (row_len (HS.out.at2)).symm
  unfold chain_of.f at H
  go_enter Try.func91, Try.ntmps91
  by_cases c00 : a05 < 0
  ·replace H := if_yes c00 H
   have c00b0 : decide (a05 < 0) = true := decide_eq_true c00
   clear c00
   go_wp2_with (first | ((with_reducible refine gate_dst (N := 4) rfl ?_); refine box_on ?hg (N := 4) ?hd (cs := #[.int .i64 0, .int .i64 0, .int .i64 0]) (t := 134) ?hr ?_; (case hd => rfl); (case hg => rfl); (case hr => first | (go_simp; done) | (go_simp; rfl)); intro g02 hg w00 hbox hb; replace HS : Aside0 (Sep FF w [b7 g00 g01 a01 a02 a03 a04, b6 g01 A00 l00.length n00 a00, r5 A00 l00.length n00 l00, b10 g02 0 0 0] w00) := ⟨HS.out.box hg hbox hb⟩; clear hg hbox hb; have hc00 : w00.cell? ⟨g02, 0, none⟩ = some (.int .i64 0) := blk_cellv (HS.out.at3) 0 rfl; have hz00 : w00.frozen? ⟨g02, 0, none⟩ = false := blk_fz (HS.out.at3) 0; have hc01 : w00.cell? ⟨g02, 1, none⟩ = some (.int .i64 0) := blk_cellv (HS.out.at3) 1 rfl; have hz01 : w00.frozen? ⟨g02, 1, none⟩ = false := blk_fz (HS.out.at3) 1; have hc02 : w00.cell? ⟨g02, 2, none⟩ = some (.int .i64 0) := blk_cellv (HS.out.at3) 2 rfl; have hz02 : w00.frozen? ⟨g02, 2, none⟩ = false := blk_fz (HS.out.at3) 2) | ((with_reducible refine gate_store (t := 134) (p := 4) rfl ?_); refine store_event (w1 := (World.setCell (World.setCell (World.setCell w00 ⟨g02, 0, none⟩ (.int .i64 0)) ⟨g02, 1, none⟩ (.int .i64 0)) ⟨g02, 2, none⟩ (.int .i64 0))) rfl (t := 134) (p := 4) rfl rfl ?hr ?_; (case hr => first | (go_simp; done) | (go_simp; rfl)); intro w01 hst; clear hc00 hz00 hc01 hz01 hc02 hz02; replace HS : Aside0 (Sep FF w [b7 g00 g01 a01 a02 a03 a04, b6 g01 A00 l00.length n00 a00, r5 A00 l00.length n00 l00, b10 g02 0 0 0] w01) := ⟨by rw [hst]; exact HS.out.setAll (l1 := [b7 g00 g01 a01 a02 a03 a04, b6 g01 A00 l00.length n00 a00, r5 A00 l00.length n00 l00]) (l2 := []) [.int .i64 0, .int .i64 0, .int .i64 0] rfl⟩; clear hst))
   have hc03 : w01.cell? ⟨g02, 0, none⟩ = some (.int .i64 0) := blk_cellv (HS.out.at3) 0 rfl
   have hc04 : w01.cell? ⟨g02, 1, none⟩ = some (.int .i64 0) := blk_cellv (HS.out.at3) 1 rfl
   have hc05 : w01.cell? ⟨g02, 2, none⟩ = some (.int .i64 0) := blk_cellv (HS.out.at3) 2 rfl
   refine bodyPost_ret (v := .tuple #[.agg #[.int .i64 0, .int .i64 0, .int .i64 0], .bool false]) (by simp [results, Try.results91, go_sem, hc03, hc04, hc05]) rfl ?_
   rw [← some_eq H]
   exact ⟨(by first | rfl | (simp [IntKind.wrap_u32]; done)), HS.out.sub (.cons_cons _ (.cons_cons _ (.cons_cons _ (.cons _ .slnil))))⟩
  ·replace H := if_no c00 H
   have c00b0 : decide (a05 < 0) = false := decide_eq_false c00
   clear c00
   by_cases c01 : a05 > 1
   ·replace H := if_yes c01 H
    have c01b0 : decide (1 < a05) = true := decide_eq_true c01
    clear c01
    go_wp2_with (first | ((with_reducible refine gate_dst (N := 4) rfl ?_); refine box_on ?hg (N := 4) ?hd (cs := #[.int .i64 0, .int .i64 0, .int .i64 0]) (t := 134) ?hr ?_; (case hd => rfl); (case hg => rfl); (case hr => first | (go_simp; done) | (go_simp; rfl)); intro g02 hg w00 hbox hb; replace HS : Aside0 (Sep FF w [b7 g00 g01 a01 a02 a03 a04, b6 g01 A00 l00.length n00 a00, r5 A00 l00.length n00 l00, b10 g02 0 0 0] w00) := ⟨HS.out.box hg hbox hb⟩; clear hg hbox hb; have hc06 : w00.cell? ⟨g02, 0, none⟩ = some (.int .i64 0) := blk_cellv (HS.out.at3) 0 rfl; have hz03 : w00.frozen? ⟨g02, 0, none⟩ = false := blk_fz (HS.out.at3) 0; have hc07 : w00.cell? ⟨g02, 1, none⟩ = some (.int .i64 0) := blk_cellv (HS.out.at3) 1 rfl; have hz04 : w00.frozen? ⟨g02, 1, none⟩ = false := blk_fz (HS.out.at3) 1; have hc08 : w00.cell? ⟨g02, 2, none⟩ = some (.int .i64 0) := blk_cellv (HS.out.at3) 2 rfl; have hz05 : w00.frozen? ⟨g02, 2, none⟩ = false := blk_fz (HS.out.at3) 2) | ((with_reducible refine gate_store (t := 134) (p := 4) rfl ?_); refine store_event (w1 := (World.setCell (World.setCell (World.setCell w00 ⟨g02, 0, none⟩ (.int .i64 0)) ⟨g02, 1, none⟩ (.int .i64 0)) ⟨g02, 2, none⟩ (.int .i64 0))) rfl (t := 134) (p := 4) rfl rfl ?hr ?_; (case hr => first | (go_simp; done) | (go_simp; rfl)); intro w02 hst; clear hc06 hz03 hc07 hz04 hc08 hz05; replace HS : Aside0 (Sep FF w [b7 g00 g01 a01 a02 a03 a04, b6 g01 A00 l00.length n00 a00, r5 A00 l00.length n00 l00, b10 g02 0 0 0] w02) := ⟨by rw [hst]; exact HS.out.setAll (l1 := [b7 g00 g01 a01 a02 a03 a04, b6 g01 A00 l00.length n00 a00, r5 A00 l00.length n00 l00]) (l2 := []) [.int .i64 0, .int .i64 0, .int .i64 0] rfl⟩; clear hst))
    have hc09 : w02.cell? ⟨g02, 0, none⟩ = some (.int .i64 0) := blk_cellv (HS.out.at3) 0 rfl
    have hc10 : w02.cell? ⟨g02, 1, none⟩ = some (.int .i64 0) := blk_cellv (HS.out.at3) 1 rfl
    have hc11 : w02.cell? ⟨g02, 2, none⟩ = some (.int .i64 0) := blk_cellv (HS.out.at3) 2 rfl
    refine bodyPost_ret (v := .tuple #[.agg #[.int .i64 0, .int .i64 0, .int .i64 0], .bool false]) (by simp [results, Try.results91, go_sem, hc09, hc10, hc11]) rfl ?_
    rw [← some_eq H]
    exact ⟨(by first | rfl | (simp [IntKind.wrap_u32]; done)), HS.out.sub (.cons_cons _ (.cons_cons _ (.cons_cons _ (.cons _ .slnil))))⟩
   ·replace H := if_no c01 H
    have c01b0 : decide (1 < a05) = false := decide_eq_false c01
    clear c01
    go_wp2_with (first | ((with_reducible refine gate_dst (N := 4) rfl ?_); refine box_on ?hg (N := 4) ?hd (cs := #[.int .i64 0, .int .i64 0, .int .i64 0]) (t := 134) ?hr ?_; (case hd => rfl); (case hg => rfl); (case hr => first | (go_simp; done) | (go_simp; rfl)); intro g02 hg w00 hbox hb; replace HS : Aside0 (Sep FF w [b7 g00 g01 a01 a02 a03 a04, b6 g01 A00 l00.length n00 a00, r5 A00 l00.length n00 l00, b10 g02 0 0 0] w00) := ⟨HS.out.box hg hbox hb⟩; clear hg hbox hb; have hc12 : w00.cell? ⟨g02, 0, none⟩ = some (.int .i64 0) := blk_cellv (HS.out.at3) 0 rfl; have hz06 : w00.frozen? ⟨g02, 0, none⟩ = false := blk_fz (HS.out.at3) 0; have hc13 : w00.cell? ⟨g02, 1, none⟩ = some (.int .i64 0) := blk_cellv (HS.out.at3) 1 rfl; have hz07 : w00.frozen? ⟨g02, 1, none⟩ = false := blk_fz (HS.out.at3) 1; have hc14 : w00.cell? ⟨g02, 2, none⟩ = some (.int .i64 0) := blk_cellv (HS.out.at3) 2 rfl; have hz08 : w00.frozen? ⟨g02, 2, none⟩ = false := blk_fz (HS.out.at3) 2) | ((with_reducible refine gate_store (t := 134) (p := 4) rfl ?_); refine store_event (w1 := (World.setCell (World.setCell (World.setCell w00 ⟨g02, 0, none⟩ (.int .i64 (wrap64 (3 * a05)))) ⟨g02, 1, none⟩ (.int .i64 (wrap64 ((wrap64 (3 * a05)) + 1)))) ⟨g02, 2, none⟩ (.int .i64 (wrap64 ((wrap64 (3 * a05)) + 2))))) rfl (t := 134) (p := 4) rfl rfl ?hr ?_; (case hr => first | (go_simp; done) | (go_simp; rfl)); intro w03 hst; clear hc12 hz06 hc13 hz07 hc14 hz08; replace HS : Aside0 (Sep FF w [b7 g00 g01 a01 a02 a03 a04, b6 g01 A00 l00.length n00 a00, r5 A00 l00.length n00 l00, b10 g02 (wrap64 (3 * a05)) (wrap64 ((wrap64 (3 * a05)) + 1)) (wrap64 ((wrap64 (3 * a05)) + 2))] w03) := ⟨by rw [hst]; exact HS.out.setAll (l1 := [b7 g00 g01 a01 a02 a03 a04, b6 g01 A00 l00.length n00 a00, r5 A00 l00.length n00 l00]) (l2 := []) [.int .i64 (wrap64 (3 * a05)), .int .i64 (wrap64 ((wrap64 (3 * a05)) + 1)), .int .i64 (wrap64 ((wrap64 (3 * a05)) + 2))] rfl⟩; clear hst))
    have hc15 : w03.cell? ⟨g02, 0, none⟩ = some (.int .i64 (wrap64 (3 * a05))) := blk_cellv (HS.out.at3) 0 rfl
    have hc16 : w03.cell? ⟨g02, 1, none⟩ = some (.int .i64 (wrap64 ((wrap64 (3 * a05)) + 1))) := blk_cellv (HS.out.at3) 1 rfl
    have hc17 : w03.cell? ⟨g02, 2, none⟩ = some (.int .i64 (wrap64 ((wrap64 (3 * a05)) + 2))) := blk_cellv (HS.out.at3) 2 rfl
    refine bodyPost_ret (v := .tuple #[.agg #[.int .i64 (wrap64 (3 * a05)), .int .i64 (wrap64 ((wrap64 (3 * a05)) + 1)), .int .i64 (wrap64 ((wrap64 (3 * a05)) + 2))], .bool true]) (by simp [results, Try.results91, go_sem, hc15, hc16, hc17]) rfl ?_
    rw [← some_eq H]
    exact ⟨(by first | rfl | (simp [IntKind.wrap_u32]; done)), HS.out.sub (.cons_cons _ (.cons_cons _ (.cons_cons _ (.cons _ .slnil))))⟩

set_option maxHeartbeats 30000000 in
set_option maxRecDepth 100000 in
theorem ground_Ground_Conf.calls (l00 : List Int) (a00 : Int) (a01 : Int) (a02 : Int) (a03 : Int) (a04 : Int) (g00 : Nat) (g01 : Nat) (A00 : Option Addr) (m00 : Nat) (n00 : Nat) (r : Int × Int × Int × Int) (w : World)   (HS : Aside0 (Sep (fps [b7 g00 g01 a01 a02 a03 a04, b6 g01 A00 m00 n00 a00, r5 A00 m00 n00 l00]) w [b7 g00 g01 a01 a02 a03 a04, b6 g01 A00 m00 n00 a00, r5 A00 m00 n00 l00] w)) (H : Aside0 (ground_Ground_Conf.f l00 a00 a01 a02 a03 a04 = some r)) :
    Calls Try.prog 39 #[.pointer (some ⟨g00, 0, none⟩)] w fun e w' => e = .returned (.agg #[.int .i64 r.1, .int .i64 r.2.1, .int .i64 r.2.2.1, .int .i64 r.2.2.2]) ∧ Sep (fps [b7 g00 g01 a01 a02 a03 a04, b6 g01 A00 m00 n00 a00, r5 A00 m00 n00 l00]) w [b7 g00 g01 a01 a02 a03 a04, b6 g01 A00 m00 n00 a00, r5 A00 m00 n00 l00] w' := by
  generalize (fps [b7 g00 g01 a01 a02 a03 a04, b6 g01 A00 m00 n00 a00, r5 A00 m00 n00 l00]) = FF at HS ⊢
  obtain rfl := (row_len (HS.out.at2)).symm
  unfold ground_Ground_Conf.f at H
  go_enter Try.func39, Try.ntmps39
  go_wp2_with (first | ((with_reducible refine gate_dst (N := 2) rfl ?_); refine box_on ?hg (N := 2) ?hd (cs := #[.int .i64 0, .int .i64 0, .int .i64 0, .int .i64 0]) (t := 49) ?hr ?_; (case hd => rfl); (case hg => rfl); (case hr => first | (go_simp; done) | (go_simp; rfl)); intro g02 hg w00 hbox hb; replace HS : Aside0 (Sep FF w [b7 g00 g01 a01 a02 a03 a04, b6 g01 A00 l00.length n00 a00, r5 A00 l00.length n00 l00, b1 g02 0 0 0 0] w00) := ⟨HS.out.box hg hbox hb⟩; clear hg hbox hb; have hc00 : w00.cell? ⟨g00, 1, none⟩ = some (.int .i64 a01) := blk_cellv (HS.out.at0) 1 rfl; have hc01 : w00.cell? ⟨g00, 2, none⟩ = some (.int .i64 a02) := blk_cellv (HS.out.at0) 2 rfl; have hc02 : w00.cell? ⟨g00, 3, none⟩ = some (.int .i64 a03) := blk_cellv (HS.out.at0) 3 rfl; have hc03 : w00.cell? ⟨g00, 4, none⟩ = some (.int .i64 a04) := blk_cellv (HS.out.at0) 4 rfl; have hc04 : w00.cell? ⟨g02, 0, none⟩ = some (.int .i64 0) := blk_cellv (HS.out.at3) 0 rfl; have hz00 : w00.frozen? ⟨g02, 0, none⟩ = false := blk_fz (HS.out.at3) 0; have hc05 : w00.cell? ⟨g02, 1, none⟩ = some (.int .i64 0) := blk_cellv (HS.out.at3) 1 rfl; have hz01 : w00.frozen? ⟨g02, 1, none⟩ = false := blk_fz (HS.out.at3) 1; have hc06 : w00.cell? ⟨g02, 2, none⟩ = some (.int .i64 0) := blk_cellv (HS.out.at3) 2 rfl; have hz02 : w00.frozen? ⟨g02, 2, none⟩ = false := blk_fz (HS.out.at3) 2; have hc07 : w00.cell? ⟨g02, 3, none⟩ = some (.int .i64 0) := blk_cellv (HS.out.at3) 3 rfl; have hz03 : w00.frozen? ⟨g02, 3, none⟩ = false := blk_fz (HS.out.at3) 3) | ((with_reducible refine gate_store (t := 49) (p := 2) rfl ?_); refine store_event (w1 := (World.setCell (World.setCell (World.setCell (World.setCell w00 ⟨g02, 0, none⟩ (.int .i64 a01)) ⟨g02, 1, none⟩ (.int .i64 a02)) ⟨g02, 2, none⟩ (.int .i64 a03)) ⟨g02, 3, none⟩ (.int .i64 a04))) rfl (t := 49) (p := 2) rfl rfl ?hr ?_; (case hr => first | (go_simp; done) | (go_simp; rfl)); intro w01 hst; clear hc00 hc01 hc02 hc03 hc04 hz00 hc05 hz01 hc06 hz02 hc07 hz03; replace HS : Aside0 (Sep FF w [b7 g00 g01 a01 a02 a03 a04, b6 g01 A00 l00.length n00 a00, r5 A00 l00.length n00 l00, b1 g02 a01 a02 a03 a04] w01) := ⟨by rw [hst]; exact HS.out.setAll (l1 := [b7 g00 g01 a01 a02 a03 a04, b6 g01 A00 l00.length n00 a00, r5 A00 l00.length n00 l00]) (l2 := []) [.int .i64 a01, .int .i64 a02, .int .i64 a03, .int .i64 a04] rfl⟩; clear hst))
  have hc08 : w01.cell? ⟨g02, 0, none⟩ = some (.int .i64 a01) := blk_cellv (HS.out.at3) 0 rfl
  have hc09 : w01.cell? ⟨g02, 1, none⟩ = some (.int .i64 a02) := blk_cellv (HS.out.at3) 1 rfl
  have hc10 : w01.cell? ⟨g02, 2, none⟩ = some (.int .i64 a03) := blk_cellv (HS.out.at3) 2 rfl
  have hc11 : w01.cell? ⟨g02, 3, none⟩ = some (.int .i64 a04) := blk_cellv (HS.out.at3) 3 rfl
  refine bodyPost_ret (v := .agg #[.int .i64 a01, .int .i64 a02, .int .i64 a03, .int .i64 a04]) (by simp [results, Try.results39, go_sem, hc08, hc09, hc10, hc11]) rfl ?_
  rw [← some_eq H]
  exact ⟨(by first | rfl | (simp [IntKind.wrap_u32]; done)), HS.out.sub (.cons_cons _ (.cons_cons _ (.cons_cons _ (.cons _ .slnil))))⟩

set_option maxHeartbeats 30000000 in
set_option maxRecDepth 100000 in
theorem ground_Ground_all.calls (l00 : List Int) (a00 : Int) (a01 : Int) (a02 : Int) (a03 : Int) (a04 : Int) (g00 : Nat) (g01 : Nat) (A00 : Option Addr) (m00 : Nat) (n00 : Nat) (r : Unit) (w : World)   (HS : Aside0 (Sep (fps [b7 g00 g01 a01 a02 a03 a04, b6 g01 A00 m00 n00 a00, r5 A00 m00 n00 l00]) w [b7 g00 g01 a01 a02 a03 a04, b6 g01 A00 m00 n00 a00, r5 A00 m00 n00 l00] w)) (H : Aside0 (ground_Ground_all.f l00 a00 a01 a02 a03 a04 = some r)) :
    Calls Try.prog 77 #[.pointer (some ⟨g00, 0, none⟩)] w fun e w' => e = .returned (.pointer (some ⟨g01, 0, none⟩)) ∧ Sep (fps [b7 g00 g01 a01 a02 a03 a04, b6 g01 A00 m00 n00 a00, r5 A00 m00 n00 l00]) w [b7 g00 g01 a01 a02 a03 a04, b6 g01 A00 m00 n00 a00, r5 A00 m00 n00 l00] w' := by
  generalize (fps [b7 g00 g01 a01 a02 a03 a04, b6 g01 A00 m00 n00 a00, r5 A00 m00 n00 l00]) = FF at HS ⊢
  obtain rfl := (row_len (HS.out.at2)).symm
  unfold ground_Ground_all.f at H
  go_enter Try.func77, Try.ntmps77
  have hc00 : w.cell? ⟨g00, 0, none⟩ = some (.pointer (some ⟨g01, 0, none⟩)) := blk_cellv (HS.out.at0) 0 rfl
  go_wp2_with fail
  clear hc00
  go_ret
  clear H
  exact ⟨(by first | rfl | (simp [IntKind.wrap_u32]; done)), HS.out⟩

set_option maxHeartbeats 30000000 in
set_option maxRecDepth 100000 in
theorem ground_within.calls (a00 : Int) (a01 : Int) (a02 : Int) (r : Int) (w : World)   (HS : Aside0 (Sep (fps []) w [] w)) (H : Aside0 (ground_within.f a00 a01 a02 = some r)) :
    Calls Try.prog 109 #[.int .i64 a00, .int .i64 a01, .int .i64 a02] w fun e w' => e = .returned (.int .i64 r) ∧ Sep (fps []) w [] w' := by
  unfold ground_within.f at H
  go_enter Try.func109, Try.ntmps109
  by_cases c00 : a00 < 0
  ·replace H := if_yes c00 H
   have c00b0 : decide (a00 < 0) = true := decide_eq_true c00
   clear c00
   go_wp2_with fail
   go_ret
   rw [← some_eq H]
   exact ⟨(by first | rfl | (simp [IntKind.wrap_u32]; done)), HS.out⟩
  ·replace H := if_no c00 H
   have c00b0 : decide (a00 < 0) = false := decide_eq_false c00
   clear c00
   by_cases c01 : a00 ≥ a01
   ·replace H := if_yes c01 H
    have c01b0 : decide (a01 ≤ a00) = true := decide_eq_true c01
    clear c01
    go_wp2_with fail
    go_ret
    rw [← some_eq H]
    exact ⟨(by first | rfl | (simp [IntKind.wrap_u32]; done)), HS.out⟩
   ·replace H := if_no c01 H
    have c01b0 : decide (a01 ≤ a00) = false := decide_eq_false c01
    clear c01
    go_wp2_with fail
    go_ret
    rw [← some_eq H]
    exact ⟨(by first | rfl | (simp [IntKind.wrap_u32]; done)), HS.out⟩

set_option maxHeartbeats 30000000 in
set_option maxRecDepth 100000 in
theorem ground_reg.calls (a00 : Int) (r : Int) (w : World)   (HS : Aside0 (Sep (fps []) w [] w)) (H : Aside0 (ground_reg.f a00 = some r)) :
    Calls Try.prog 78 #[.int .i64 a00] w fun e w' => e = .returned (.int .i64 r) ∧ Sep (fps []) w [] w' := by
  unfold ground_reg.f at H
  go_enter Try.func78, Try.ntmps78
  go_wp2_with fail
  obtain ⟨t00, HA00, H⟩ := bind_some H
  refine (ground_within.calls a00 24 0 t00 _ ⟨Sep.start _⟩ HA00).mono ?_
  rintro e_ w00 ⟨rfl, hS⟩
  replace HS : Aside0 (Sep (fps []) w [] w00) := ⟨HS.out.call hS⟩
  clear hS
  go_wp2_with fail
  go_ret
  rw [← some_eq H]
  exact ⟨(by first | rfl | (simp [IntKind.wrap_u32]; done)), HS.out⟩

set_option maxHeartbeats 30000000 in
set_option maxRecDepth 100000 in
theorem store_Store_has.calls (l00 : List Int) (a00 : Int) (a01 : Int) (g00 : Nat) (A00 : Option Addr) (m00 : Nat) (n00 : Nat) (r : Bool) (w : World)   (HS : Aside0 (Sep (fps [b6 g00 A00 m00 n00 a00, r5 A00 m00 n00 l00]) w [b6 g00 A00 m00 n00 a00, r5 A00 m00 n00 l00] w)) (H : Aside0 (store_Store_has.f l00 a00 a01 = some r)) :
    Calls Try.prog 69 #[.pointer (some ⟨g00, 0, none⟩), .int .i64 a01] w fun e w' => e = .returned (.bool r) ∧ Sep (fps [b6 g00 A00 m00 n00 a00, r5 A00 m00 n00 l00]) w [b6 g00 A00 m00 n00 a00, r5 A00 m00 n00 l00] w' := by
  generalize (fps [b6 g00 A00 m00 n00 a00, r5 A00 m00 n00 l00]) = FF at HS ⊢
  obtain rfl := (row_len (HS.out.at1)).symm
  unfold store_Store_has.f at H
  go_enter Try.func69, Try.ntmps69
  by_cases c00 : a01 ≥ 0
  ·replace H := if_yes c00 H
   have c00b0 : decide (0 ≤ a01) = true := decide_eq_true c00
   clear c00
   have hc00 : w.cell? ⟨g00, 0, none⟩ = some (.slice A00 l00.length n00) := blk_cellv (HS.out.at0) 0 rfl
   go_wp2_with fail
   clear hc00
   go_ret
   rw [← some_eq H]
   exact ⟨(by first | rfl | (simp [IntKind.wrap_u32]; done)), HS.out⟩
  ·replace H := if_no c00 H
   have c00b0 : decide (0 ≤ a01) = false := decide_eq_false c00
   clear c00
   go_wp2_with fail
   go_ret
   rw [← some_eq H]
   exact ⟨(by first | rfl | (simp [IntKind.wrap_u32]; done)), HS.out⟩

set_option maxHeartbeats 30000000 in
set_option maxRecDepth 100000 in
theorem atomic_Uint64_Add.calls (l00 : List Int) (a00 : Int) (a01 : Int) (g00 : Nat) (A00 : Option Addr) (m00 : Nat) (n00 : Nat) (r : Int × Int) (w : World)   (HS : Aside0 (Sep (fps [b6 g00 A00 m00 n00 a00, r5 A00 m00 n00 l00]) w [b6 g00 A00 m00 n00 a00, r5 A00 m00 n00 l00] w)) (H : Aside0 (atomic_Uint64_Add.f l00 a00 a01 = some r)) :
    Calls Try.prog 71 #[.pointer (some ⟨g00, 1, none⟩), .int .u64 a01] w fun e w' => e = .returned (.int .u64 r.1) ∧ Sep (fps [b6 g00 A00 m00 n00 a00, r5 A00 m00 n00 l00]) w [b6 g00 A00 m00 n00 r.2, r5 A00 m00 n00 l00] w' := by
  generalize (fps [b6 g00 A00 m00 n00 a00, r5 A00 m00 n00 l00]) = FF at HS ⊢
  obtain rfl := (row_len (HS.out.at1)).symm
  unfold atomic_Uint64_Add.f at H
  go_enter Try.func71, Try.ntmps71
  obtain ⟨y00, HA00, H⟩ := bind_some H
  have hc00 : w.cell? ⟨g00, 1, none⟩ = some (.int .u64 a00) := blk_cellv (HS.out.at0) 1 rfl
  have hz00 : w.frozen? ⟨g00, 1, none⟩ = false := blk_fz (HS.out.at0) 1
  have hn00 : (callFunc 104 #[.pointer (some ⟨g00, 1, none⟩), .int .u64 a01]).run Try.prog w = .ok (.value (.int .u64 y00)) ((World.setCell w ⟨g00, 1, none⟩ (.int .u64 y00))) := (some_eq HA00) ▸ run_call_add Try.func104 (by kernel_rfl) (by kernel_rfl) (by kernel_rfl) .u64 (by kernel_rfl) hc00 hz00 (by rfl)
  go_wp2_with (first | ((with_reducible refine gate_dst (N := 9) rfl ?_); refine run_on2 (by rfl) (w1 := (World.setCell w ⟨g00, 1, none⟩ (.int .u64 y00))) (v := .int .u64 y00) ?hr ?_; (case hr => first | (go_simp; done) | (go_simp; rfl)); intro w00 hst; clear hc00 hz00; have hq0 : Sep FF w [b6 g00 A00 l00.length n00 y00, r5 A00 l00.length n00 l00] (World.setCell w ⟨g00, 1, none⟩ (.int .u64 y00)) := (HS.out).set1 (l1 := []) (l2 := [r5 A00 l00.length n00 l00]) 1 (.int .u64 y00); replace HS : Aside0 (Sep FF w [b6 g00 A00 l00.length n00 y00, r5 A00 l00.length n00 l00] w00) := ⟨by rw [hst]; exact hq0⟩; clear hst hn00 hq0))
  go_ret
  rw [← some_eq H]
  exact ⟨(by first | rfl | (simp [IntKind.wrap_u32]; done)), HS.out⟩

set_option maxHeartbeats 30000000 in
set_option maxRecDepth 100000 in
theorem store_Store_Get.calls (l00 : List Int) (a00 : Int) (a01 : Int) (g00 : Nat) (A00 : Option Addr) (m00 : Nat) (n00 : Nat) (r : Int × Int) (w : World)   (HS : Aside0 (Sep (fps [b6 g00 A00 m00 n00 a00, r5 A00 m00 n00 l00]) w [b6 g00 A00 m00 n00 a00, r5 A00 m00 n00 l00] w)) (H : Aside0 (store_Store_Get.f l00 a00 a01 = some r)) :
    Calls Try.prog 25 #[.pointer (some ⟨g00, 0, none⟩), .int .i64 a01] w fun e w' => e = .returned (.int .u32 r.1) ∧ Sep (fps [b6 g00 A00 m00 n00 a00, r5 A00 m00 n00 l00]) w [b6 g00 A00 m00 n00 r.2, r5 A00 m00 n00 l00] w' := by
  generalize (fps [b6 g00 A00 m00 n00 a00, r5 A00 m00 n00 l00]) = FF at HS ⊢
  obtain rfl := (row_len (HS.out.at1)).symm
  unfold store_Store_Get.f at H
  go_enter Try.func25, Try.ntmps25
  go_wp2_with fail
  obtain ⟨t00, HA00, H⟩ := bind_some H
  refine (store_Store_has.calls l00 a00 a01 g00 A00 l00.length n00 t00 _ ⟨HS.out.begin⟩ HA00).mono ?_
  rintro e_ w00 ⟨rfl, hS⟩
  replace HS : Aside0 (Sep FF w [b6 g00 A00 l00.length n00 a00, r5 A00 l00.length n00 l00] w00) := ⟨HS.out.call hS⟩
  clear hS
  by_cases c00 : t00 = true
  ·replace H := if_yes c00 H
   have c00b0 : t00 = true := c00
   have c00b1 : (!t00) = false := by rw [c00b0]; rfl
   try rw [c00b1]
   clear c00
   go_wp2_with fail
   obtain ⟨t01, HA01, H⟩ := bind_some H
   refine (atomic_Uint64_Add.calls l00 a00 1 g00 A00 l00.length n00 t01 _ ⟨HS.out.begin⟩ HA01).mono ?_
   rintro e_ w01 ⟨rfl, hS⟩
   replace HS : Aside0 (Sep FF w [b6 g00 A00 l00.length n00 t01.2, r5 A00 l00.length n00 l00] w01) := ⟨HS.out.call hS⟩
   clear hS
   by_cases c01 : 0 ≤ a01
   ·replace H := if_yes c01 H
    have c01b0 : decide (0 ≤ a01) = true := decide_eq_true c01
    have c01p : (0 ≤ a01) = True := eq_true c01
    clear c01
    by_cases c02 : a01 < (l00.length : Int)
    ·replace H := if_yes c02 H
     have c02b0 : decide (a01 < (l00.length : Int)) = true := decide_eq_true c02
     have c02p : (a01 < (l00.length : Int)) = True := eq_true c02
     clear c02
     have hc00 : w01.cell? ⟨g00, 0, none⟩ = some (.slice A00 l00.length n00) := blk_cellv (HS.out.at0) 0 rfl
     obtain ⟨g01, ea⟩ := row_at (HS.out.at1) (by have := (of_decide_eq_true c01b0); have := (of_decide_eq_true c02b0); omega); cases ea
     have hx00 := C_at_int (row_Ci (HS.out.at1)) a01 (of_decide_eq_true c01b0) (of_decide_eq_true c02b0)
     have hx01 : w01.cell? ⟨g01, (a01).toNat, none⟩ = some (.int .u32 (rd l00 a01)) := (row_get 0 (HS.out.at1) a01 (of_decide_eq_true c01b0) (of_decide_eq_true c02b0)).1
     go_wp2_with fail
     clear hc00 hx00 hx01
     go_ret
     rw [← some_eq H]
     exact ⟨(by first | rfl | (simp [IntKind.wrap_u32]; done)), HS.out⟩
    ·replace H := if_no c02 H
     have c02b0 : decide (a01 < (l00.length : Int)) = false := decide_eq_false c02
     clear c02
     exact (none_no H).elim
   ·replace H := if_no c01 H
    have c01b0 : decide (0 ≤ a01) = false := decide_eq_false c01
    clear c01
    exact (none_no H).elim
  ·replace H := if_no c00 H
   have c00b0 : t00 = false := by simpa using c00
   have c00b1 : (!t00) = true := by rw [c00b0]; rfl
   try rw [c00b1]
   clear c00
   go_wp2_with fail
   go_ret
   rw [← some_eq H]
   exact ⟨(by first | rfl | (simp [IntKind.wrap_u32]; done)), HS.out⟩

set_option maxHeartbeats 30000000 in
set_option maxRecDepth 100000 in
theorem ground_Ground_Reg.calls (l00 : List Int) (a00 : Int) (a01 : Int) (a02 : Int) (a03 : Int) (a04 : Int) (a05 : Int) (g00 : Nat) (g01 : Nat) (A00 : Option Addr) (m00 : Nat) (n00 : Nat) (r : Int × Int) (w : World)   (HS : Aside0 (Sep (fps [b7 g00 g01 a01 a02 a03 a04, b6 g01 A00 m00 n00 a00, r5 A00 m00 n00 l00]) w [b7 g00 g01 a01 a02 a03 a04, b6 g01 A00 m00 n00 a00, r5 A00 m00 n00 l00] w)) (H : Aside0 (ground_Ground_Reg.f l00 a00 a01 a02 a03 a04 a05 = some r)) :
    Calls Try.prog 36 #[.pointer (some ⟨g00, 0, none⟩), .int .i64 a05] w fun e w' => e = .returned (.int .i64 r.1) ∧ Sep (fps [b7 g00 g01 a01 a02 a03 a04, b6 g01 A00 m00 n00 a00, r5 A00 m00 n00 l00]) w [b7 g00 g01 a01 a02 a03 a04, b6 g01 A00 m00 n00 r.2, r5 A00 m00 n00 l00] w' := by
  generalize (fps [b7 g00 g01 a01 a02 a03 a04, b6 g01 A00 m00 n00 a00, r5 A00 m00 n00 l00]) = FF at HS ⊢
  obtain rfl := (row_len (HS.out.at2)).symm
  unfold ground_Ground_Reg.f at H
  go_enter Try.func36, Try.ntmps36
  go_wp2_with fail
  obtain ⟨t00, HA00, H⟩ := bind_some H
  refine (ground_Ground_all.calls l00 a00 a01 a02 a03 a04 g00 g01 A00 l00.length n00 t00 _ ⟨HS.out.begin⟩ HA00).mono ?_
  rintro e_ w00 ⟨rfl, hS⟩
  replace HS : Aside0 (Sep FF w [b7 g00 g01 a01 a02 a03 a04, b6 g01 A00 l00.length n00 a00, r5 A00 l00.length n00 l00] w00) := ⟨HS.out.call hS⟩
  clear hS
  go_wp2_with fail
  obtain ⟨t01, HA01, H⟩ := bind_some H
  refine (ground_reg.calls a05 t01 _ ⟨Sep.start _⟩ HA01).mono ?_
  rintro e_ w01 ⟨rfl, hS⟩
  replace HS : Aside0 (Sep FF w [b7 g00 g01 a01 a02 a03 a04, b6 g01 A00 l00.length n00 a00, r5 A00 l00.length n00 l00] w01) := ⟨HS.out.call hS⟩
  clear hS
  go_wp2_with fail
  replace HS : Aside0 (Sep FF w [b6 g01 A00 l00.length n00 a00, r5 A00 l00.length n00 l00, b7 g00 g01 a01 a02 a03 a04] w01) := ⟨((HS.out).front 2 (by simp)).front 2 (by simp)⟩
  obtain ⟨t02, HA02, H⟩ := bind_some H
  refine (store_Store_Get.calls l00 a00 t01 g01 A00 l00.length n00 t02 _ ⟨HS.out.begin⟩ HA02).mono ?_
  rintro e_ w02 ⟨rfl, hS⟩
  replace HS : Aside0 (Sep FF w [b6 g01 A00 l00.length n00 t02.2, r5 A00 l00.length n00 l00, b7 g00 g01 a01 a02 a03 a04] w02) := ⟨HS.out.call hS⟩
  clear hS
  go_wp2_with fail
  go_ret
  rw [← some_eq H]
  exact ⟨(by first | rfl | (simp [IntKind.wrap_u32]; done)), ((((HS.out).front 1 (by simp)).front 1 (by simp)).front 2 (by simp)).keep (l := [b7 g00 g01 a01 a02 a03 a04, b6 g01 A00 l00.length n00 t02.2, r5 A00 l00.length n00 l00]) (rest := [])⟩

set_option maxHeartbeats 30000000 in
set_option maxRecDepth 100000 in
theorem ground_Ground_word.calls (l00 : List Int) (a00 : Int) (a01 : Int) (a02 : Int) (a03 : Int) (a04 : Int) (a05 : Int) (a06 : Int) (g00 : Nat) (g01 : Nat) (A00 : Option Addr) (m00 : Nat) (n00 : Nat) (r : Int) (w : World)   (HS : Aside0 (Sep (fps [b7 g00 g01 a01 a02 a03 a04, b6 g01 A00 m00 n00 a00, r5 A00 m00 n00 l00]) w [b7 g00 g01 a01 a02 a03 a04, b6 g01 A00 m00 n00 a00, r5 A00 m00 n00 l00] w)) (H : Aside0 (ground_Ground_word.f l00 a00 a01 a02 a03 a04 a05 a06 = some r)) :
    Calls Try.prog 87 #[.pointer (some ⟨g00, 0, none⟩), .int .i64 a05, .int .i64 a06] w fun e w' => e = .returned (.int .i64 r) ∧ Sep (fps [b7 g00 g01 a01 a02 a03 a04, b6 g01 A00 m00 n00 a00, r5 A00 m00 n00 l00]) w [b7 g00 g01 a01 a02 a03 a04, b6 g01 A00 m00 n00 a00, r5 A00 m00 n00 l00] w' := by
  generalize (fps [b7 g00 g01 a01 a02 a03 a04, b6 g01 A00 m00 n00 a00, r5 A00 m00 n00 l00]) = FF at HS ⊢
  obtain rfl := (row_len (HS.out.at2)).symm
  unfold ground_Ground_word.f at H
  go_enter Try.func87, Try.ntmps87
  go_wp2_with fail
  obtain ⟨t00, HA00, H⟩ := bind_some H
  refine (ground_Ground_Conf.calls l00 a00 a01 a02 a03 a04 g00 g01 A00 l00.length n00 t00 _ ⟨HS.out.begin⟩ HA00).mono ?_
  rintro e_ w00 ⟨rfl, hS⟩
  replace HS : Aside0 (Sep FF w [b7 g00 g01 a01 a02 a03 a04, b6 g01 A00 l00.length n00 a00, r5 A00 l00.length n00 l00] w00) := ⟨HS.out.call hS⟩
  clear hS
  go_wp2_with (first | ((with_reducible refine gate_dst (N := 7) rfl ?_); refine box_on ?hg (N := 7) ?hd (cs := #[.int .i64 0, .int .i64 0, .int .i64 0, .int .i64 0]) (t := 49) ?hr ?_; (case hd => rfl); (case hg => rfl); (case hr => first | (go_simp; done) | (go_simp; rfl)); intro g02 hg w01 hbox hb; replace HS : Aside0 (Sep FF w [b7 g00 g01 a01 a02 a03 a04, b6 g01 A00 l00.length n00 a00, r5 A00 l00.length n00 l00, b1 g02 0 0 0 0] w01) := ⟨HS.out.box hg hbox hb⟩; clear hg hbox hb; have hc00 : w01.cell? ⟨g02, 0, none⟩ = some (.int .i64 0) := blk_cellv (HS.out.at3) 0 rfl; have hz00 : w01.frozen? ⟨g02, 0, none⟩ = false := blk_fz (HS.out.at3) 0; have hc01 : w01.cell? ⟨g02, 1, none⟩ = some (.int .i64 0) := blk_cellv (HS.out.at3) 1 rfl; have hz01 : w01.frozen? ⟨g02, 1, none⟩ = false := blk_fz (HS.out.at3) 1; have hc02 : w01.cell? ⟨g02, 2, none⟩ = some (.int .i64 0) := blk_cellv (HS.out.at3) 2 rfl; have hz02 : w01.frozen? ⟨g02, 2, none⟩ = false := blk_fz (HS.out.at3) 2; have hc03 : w01.cell? ⟨g02, 3, none⟩ = some (.int .i64 0) := blk_cellv (HS.out.at3) 3 rfl; have hz03 : w01.frozen? ⟨g02, 3, none⟩ = false := blk_fz (HS.out.at3) 3) | ((with_reducible refine gate_store (t := 49) (p := 7) rfl ?_); refine store_event (w1 := (World.setCell (World.setCell (World.setCell (World.setCell w01 ⟨g02, 0, none⟩ (.int .i64 t00.1)) ⟨g02, 1, none⟩ (.int .i64 t00.2.1)) ⟨g02, 2, none⟩ (.int .i64 t00.2.2.1)) ⟨g02, 3, none⟩ (.int .i64 t00.2.2.2))) rfl (t := 49) (p := 7) rfl rfl ?hr ?_; (case hr => first | (go_simp; done) | (go_simp; rfl)); intro w02 hst; clear hc00 hz00 hc01 hz01 hc02 hz02 hc03 hz03; replace HS : Aside0 (Sep FF w [b7 g00 g01 a01 a02 a03 a04, b6 g01 A00 l00.length n00 a00, r5 A00 l00.length n00 l00, b1 g02 t00.1 t00.2.1 t00.2.2.1 t00.2.2.2] w02) := ⟨by rw [hst]; exact HS.out.setAll (l1 := [b7 g00 g01 a01 a02 a03 a04, b6 g01 A00 l00.length n00 a00, r5 A00 l00.length n00 l00]) (l2 := []) [.int .i64 t00.1, .int .i64 t00.2.1, .int .i64 t00.2.2.1, .int .i64 t00.2.2.2] rfl⟩; clear hst; have hc04 : w02.cell? ⟨g02, 0, none⟩ = some (.int .i64 t00.1) := blk_cellv (HS.out.at3) 0 rfl))
  clear hc04
  obtain ⟨t01, HA01, H⟩ := bind_some H
  refine (ground_within.calls a05 t00.1 0 t01 _ ⟨Sep.start _⟩ HA01).mono ?_
  rintro e_ w03 ⟨rfl, hS⟩
  replace HS : Aside0 (Sep FF w [b7 g00 g01 a01 a02 a03 a04, b6 g01 A00 l00.length n00 a00, r5 A00 l00.length n00 l00, b1 g02 t00.1 t00.2.1 t00.2.2.1 t00.2.2.2] w03) := ⟨HS.out.call hS⟩
  clear hS
  by_cases c00 : t01 = (-1)
  ·replace H := if_yes c00 H
   have c00b0 : (t01 == (-1)) = true := beq_iff_eq.mpr c00
   have c00b1 : (t01 != (-1)) = false := bne_eq_false_iff_eq.mpr c00
   clear c00
   replace HS : Aside0 (Sep FF w [b7 g00 g01 a01 a02 a03 a04, b6 g01 A00 l00.length n00 a00, r5 A00 l00.length n00 l00] w03) := ⟨HS.out.sub (.cons_cons _ (.cons_cons _ (.cons_cons _ (.cons _ .slnil))))⟩
   go_wp2_with fail
   go_ret
   rw [← some_eq H]
   exact ⟨(by first | rfl | (simp [IntKind.wrap_u32]; done)), HS.out⟩
  ·replace H := if_no c00 H
   have c00b0 : (t01 == (-1)) = false := beq_eq_false_iff_ne.mpr c00
   have c00b1 : (t01 != (-1)) = true := bne_iff_ne.mpr c00
   clear c00
   have hc05 : w03.cell? ⟨g02, 1, none⟩ = some (.int .i64 t00.2.1) := blk_cellv (HS.out.at3) 1 rfl
   have hc06 : w03.cell? ⟨g02, 2, none⟩ = some (.int .i64 t00.2.2.1) := blk_cellv (HS.out.at3) 2 rfl
   go_wp2_with fail
   clear hc05 hc06
   obtain ⟨t02, HA02, H⟩ := bind_some H
   refine (ground_within.calls a06 t00.2.1 (wrap64 ((wrap64 (24 + t00.2.2.1)) + (wrap64 (a05 * t00.2.1)))) t02 _ ⟨Sep.start _⟩ HA02).mono ?_
   rintro e_ w04 ⟨rfl, hS⟩
   replace HS : Aside0 (Sep FF w [b7 g00 g01 a01 a02 a03 a04, b6 g01 A00 l00.length n00 a00, r5 A00 l00.length n00 l00, b1 g02 t00.1 t00.2.1 t00.2.2.1 t00.2.2.2] w04) := ⟨HS.out.call hS⟩
   clear hS
   replace HS : Aside0 (Sep FF w [b7 g00 g01 a01 a02 a03 a04, b6 g01 A00 l00.length n00 a00, r5 A00 l00.length n00 l00] w04) := ⟨HS.out.sub (.cons_cons _ (.cons_cons _ (.cons_cons _ (.cons _ .slnil))))⟩
   go_wp2_with fail
   go_ret
   rw [← some_eq H]
   exact ⟨(by first | rfl | (simp [IntKind.wrap_u32]; done)), HS.out⟩

set_option maxHeartbeats 30000000 in
set_option maxRecDepth 100000 in
theorem store_Store_Put.calls (l00 : List Int) (a00 : Int) (a01 : Int) (a02 : Int) (g00 : Nat) (A00 : Option Addr) (m00 : Nat) (n00 : Nat) (r : Bool × Int × List Int) (w : World)   (HS : Aside0 (Sep (fps [b6 g00 A00 m00 n00 a00, r5 A00 m00 n00 l00]) w [b6 g00 A00 m00 n00 a00, r5 A00 m00 n00 l00] w)) (H : Aside0 (store_Store_Put.f l00 a00 a01 a02 = some r)) :
    Calls Try.prog 22 #[.pointer (some ⟨g00, 0, none⟩), .int .i64 a01, .int .u32 a02] w fun e w' => e = .returned (.bool r.1) ∧ Sep (fps [b6 g00 A00 m00 n00 a00, r5 A00 m00 n00 l00]) w [b6 g00 A00 m00 n00 r.2.1, r5 A00 m00 n00 r.2.2] w' := by
  generalize (fps [b6 g00 A00 m00 n00 a00, r5 A00 m00 n00 l00]) = FF at HS ⊢
  obtain rfl := (row_len (HS.out.at1)).symm
  unfold store_Store_Put.f at H
  go_enter Try.func22, Try.ntmps22
  go_wp2_with fail
  obtain ⟨t00, HA00, H⟩ := bind_some H
  refine (store_Store_has.calls l00 a00 a01 g00 A00 l00.length n00 t00 _ ⟨HS.out.begin⟩ HA00).mono ?_
  rintro e_ w00 ⟨rfl, hS⟩
  replace HS : Aside0 (Sep FF w [b6 g00 A00 l00.length n00 a00, r5 A00 l00.length n00 l00] w00) := ⟨HS.out.call hS⟩
  clear hS
  by_cases c00 : t00 = true
  ·replace H := if_yes c00 H
   have c00b0 : t00 = true := c00
   have c00b1 : (!t00) = false := by rw [c00b0]; rfl
   try rw [c00b1]
   clear c00
   go_wp2_with fail
   obtain ⟨t01, HA01, H⟩ := bind_some H
   refine (atomic_Uint64_Add.calls l00 a00 1 g00 A00 l00.length n00 t01 _ ⟨HS.out.begin⟩ HA01).mono ?_
   rintro e_ w01 ⟨rfl, hS⟩
   replace HS : Aside0 (Sep FF w [b6 g00 A00 l00.length n00 t01.2, r5 A00 l00.length n00 l00] w01) := ⟨HS.out.call hS⟩
   clear hS
   by_cases c01 : 0 ≤ a01
   ·replace H := if_yes c01 H
    have c01b0 : decide (0 ≤ a01) = true := decide_eq_true c01
    have c01p : (0 ≤ a01) = True := eq_true c01
    clear c01
    by_cases c02 : a01 < (l00.length : Int)
    ·replace H := if_yes c02 H
     have c02b0 : decide (a01 < (l00.length : Int)) = true := decide_eq_true c02
     have c02p : (a01 < (l00.length : Int)) = True := eq_true c02
     clear c02
     obtain ⟨y00, HA02, H⟩ := bind_some H
     have hc00 : w01.cell? ⟨g00, 0, none⟩ = some (.slice A00 l00.length n00) := blk_cellv (HS.out.at0) 0 rfl
     obtain ⟨g01, ea⟩ := row_at (HS.out.at1) (by have := (of_decide_eq_true c01b0); have := (of_decide_eq_true c02b0); omega); cases ea
     have hx00 := (row_get 0 (HS.out.at1) a01 (of_decide_eq_true c01b0) (of_decide_eq_true c02b0)).1
     have hz00 := (row_get 0 (HS.out.at1) a01 (of_decide_eq_true c01b0) (of_decide_eq_true c02b0)).2
     go_wp2_with (first | ((with_reducible refine gate_store (t := 23) (p := 21) rfl ?_); refine store_event (w1 := World.setCell w01 ⟨g01, (a01).toNat, none⟩ (.int .u32 a02)) rfl (t := 23) (p := 21) rfl rfl ?hr ?_; (case hr => first | (go_simp; done) | (go_simp; rfl)); intro w02 hst; clear hc00 hx00 hz00; have hq := Sep.rowset (l1 := [b6 g00 (some ⟨g01, 0, none⟩) l00.length n00 t01.2]) (l2 := []) HS.out a01 a02; rw [← hst, some_eq HA02] at hq; replace HS : Aside0 (Sep FF w [b6 g00 (some ⟨g01, 0, none⟩) l00.length n00 t01.2, r5 (some ⟨g01, 0, none⟩) l00.length n00 y00] w02) := ⟨hq⟩; clear hst hq))
     go_ret
     rw [← some_eq H]
     exact ⟨(by first | rfl | (simp [IntKind.wrap_u32]; done)), HS.out⟩
    ·replace H := if_no c02 H
     have c02b0 : decide (a01 < (l00.length : Int)) = false := decide_eq_false c02
     clear c02
     exact (none_no H).elim
   ·replace H := if_no c01 H
    have c01b0 : decide (0 ≤ a01) = false := decide_eq_false c01
    clear c01
    exact (none_no H).elim
  ·replace H := if_no c00 H
   have c00b0 : t00 = false := by simpa using c00
   have c00b1 : (!t00) = true := by rw [c00b0]; rfl
   try rw [c00b1]
   clear c00
   go_wp2_with fail
   go_ret
   rw [← some_eq H]
   exact ⟨(by first | rfl | (simp [IntKind.wrap_u32]; done)), HS.out⟩

set_option maxHeartbeats 30000000 in
set_option maxRecDepth 100000 in
theorem ground_Ground_SetWord.calls (l00 : List Int) (a00 : Int) (a01 : Int) (a02 : Int) (a03 : Int) (a04 : Int) (a05 : Int) (a06 : Int) (a07 : Int) (g00 : Nat) (g01 : Nat) (A00 : Option Addr) (m00 : Nat) (n00 : Nat) (r : Bool × Int × List Int) (w : World)   (HS : Aside0 (Sep (fps [b7 g00 g01 a01 a02 a03 a04, b6 g01 A00 m00 n00 a00, r5 A00 m00 n00 l00]) w [b7 g00 g01 a01 a02 a03 a04, b6 g01 A00 m00 n00 a00, r5 A00 m00 n00 l00] w)) (H : Aside0 (ground_Ground_SetWord.f l00 a00 a01 a02 a03 a04 a05 a06 a07 = some r)) :
    Calls Try.prog 46 #[.pointer (some ⟨g00, 0, none⟩), .int .i64 a05, .int .i64 a06, .int .u32 a07] w fun e w' => e = .returned (.bool r.1) ∧ Sep (fps [b7 g00 g01 a01 a02 a03 a04, b6 g01 A00 m00 n00 a00, r5 A00 m00 n00 l00]) w [b7 g00 g01 a01 a02 a03 a04, b6 g01 A00 m00 n00 r.2.1, r5 A00 m00 n00 r.2.2] w' := by
  generalize (fps [b7 g00 g01 a01 a02 a03 a04, b6 g01 A00 m00 n00 a00, r5 A00 m00 n00 l00]) = FF at HS ⊢
  obtain rfl := (row_len (HS.out.at2)).symm
  unfold ground_Ground_SetWord.f at H
  go_enter Try.func46, Try.ntmps46
  go_wp2_with fail
  obtain ⟨t00, HA00, H⟩ := bind_some H
  refine (ground_Ground_all.calls l00 a00 a01 a02 a03 a04 g00 g01 A00 l00.length n00 t00 _ ⟨HS.out.begin⟩ HA00).mono ?_
  rintro e_ w00 ⟨rfl, hS⟩
  replace HS : Aside0 (Sep FF w [b7 g00 g01 a01 a02 a03 a04, b6 g01 A00 l00.length n00 a00, r5 A00 l00.length n00 l00] w00) := ⟨HS.out.call hS⟩
  clear hS
  go_wp2_with fail
  obtain ⟨t01, HA01, H⟩ := bind_some H
  refine (ground_Ground_word.calls l00 a00 a01 a02 a03 a04 a05 a06 g00 g01 A00 l00.length n00 t01 _ ⟨HS.out.begin⟩ HA01).mono ?_
  rintro e_ w01 ⟨rfl, hS⟩
  replace HS : Aside0 (Sep FF w [b7 g00 g01 a01 a02 a03 a04, b6 g01 A00 l00.length n00 a00, r5 A00 l00.length n00 l00] w01) := ⟨HS.out.call hS⟩
  clear hS
  go_wp2_with fail
  replace HS : Aside0 (Sep FF w [b6 g01 A00 l00.length n00 a00, r5 A00 l00.length n00 l00, b7 g00 g01 a01 a02 a03 a04] w01) := ⟨((HS.out).front 2 (by simp)).front 2 (by simp)⟩
  obtain ⟨t02, HA02, H⟩ := bind_some H
  refine (store_Store_Put.calls l00 a00 t01 a07 g01 A00 l00.length n00 t02 _ ⟨HS.out.begin⟩ HA02).mono ?_
  rintro e_ w02 ⟨rfl, hS⟩
  replace HS : Aside0 (Sep FF w [b6 g01 A00 l00.length n00 t02.2.1, r5 A00 l00.length n00 t02.2.2, b7 g00 g01 a01 a02 a03 a04] w02) := ⟨HS.out.call hS⟩
  clear hS
  go_wp2_with fail
  go_ret
  rw [← some_eq H]
  exact ⟨(by first | rfl | (simp [IntKind.wrap_u32]; done)), ((((HS.out).front 1 (by simp)).front 1 (by simp)).front 2 (by simp)).keep (l := [b7 g00 g01 a01 a02 a03 a04, b6 g01 A00 l00.length n00 t02.2.1, r5 A00 l00.length n00 t02.2.2]) (rest := [])⟩

set_option maxHeartbeats 30000000 in
set_option maxRecDepth 100000 in
theorem ground_Ground_set.calls (l00 : List Int) (a00 : Int) (a01 : Int) (a02 : Int) (a03 : Int) (a04 : Int) (a05 : Int) (a06 : Int) (g00 : Nat) (g01 : Nat) (A00 : Option Addr) (m00 : Nat) (n00 : Nat) (r : Bool × Int × List Int) (w : World)   (HS : Aside0 (Sep (fps [b7 g00 g01 a01 a02 a03 a04, b6 g01 A00 m00 n00 a00, r5 A00 m00 n00 l00]) w [b7 g00 g01 a01 a02 a03 a04, b6 g01 A00 m00 n00 a00, r5 A00 m00 n00 l00] w)) (H : Aside0 (ground_Ground_set.f l00 a00 a01 a02 a03 a04 a05 a06 = some r)) :
    Calls Try.prog 85 #[.pointer (some ⟨g00, 0, none⟩), .int .i64 a05, .int .i64 a06] w fun e w' => e = .returned (.bool r.1) ∧ Sep (fps [b7 g00 g01 a01 a02 a03 a04, b6 g01 A00 m00 n00 a00, r5 A00 m00 n00 l00]) w [b7 g00 g01 a01 a02 a03 a04, b6 g01 A00 m00 n00 r.2.1, r5 A00 m00 n00 r.2.2] w' := by
  generalize (fps [b7 g00 g01 a01 a02 a03 a04, b6 g01 A00 m00 n00 a00, r5 A00 m00 n00 l00]) = FF at HS ⊢
  obtain rfl := (row_len (HS.out.at2)).symm
  unfold ground_Ground_set.f at H
  go_enter Try.func85, Try.ntmps85
  by_cases c00 : a06 < 0
  ·replace H := if_yes c00 H
   have c00b0 : decide (a06 < 0) = true := decide_eq_true c00
   clear c00
   go_wp2_with fail
   go_ret
   rw [← some_eq H]
   exact ⟨(by first | rfl | (simp [IntKind.wrap_u32]; done)), HS.out⟩
  ·replace H := if_no c00 H
   have c00b0 : decide (a06 < 0) = false := decide_eq_false c00
   clear c00
   by_cases c01 : a06 > 4294967295
   ·replace H := if_yes c01 H
    have c01b0 : decide (4294967295 < a06) = true := decide_eq_true c01
    clear c01
    go_wp2_with fail
    go_ret
    rw [← some_eq H]
    exact ⟨(by first | rfl | (simp [IntKind.wrap_u32]; done)), HS.out⟩
   ·replace H := if_no c01 H
    have c01b0 : decide (4294967295 < a06) = false := decide_eq_false c01
    clear c01
    go_wp2_with fail
    obtain ⟨t00, HA00, H⟩ := bind_some H
    refine (ground_Ground_all.calls l00 a00 a01 a02 a03 a04 g00 g01 A00 l00.length n00 t00 _ ⟨HS.out.begin⟩ HA00).mono ?_
    rintro e_ w00 ⟨rfl, hS⟩
    replace HS : Aside0 (Sep FF w [b7 g00 g01 a01 a02 a03 a04, b6 g01 A00 l00.length n00 a00, r5 A00 l00.length n00 l00] w00) := ⟨HS.out.call hS⟩
    clear hS
    go_wp2_with fail
    replace HS : Aside0 (Sep FF w [b6 g01 A00 l00.length n00 a00, r5 A00 l00.length n00 l00, b7 g00 g01 a01 a02 a03 a04] w00) := ⟨((HS.out).front 2 (by simp)).front 2 (by simp)⟩
    obtain ⟨t01, HA01, H⟩ := bind_some H
    refine (store_Store_Put.calls l00 a00 a05 ((a06) % 4294967296) g01 A00 l00.length n00 t01 _ ⟨HS.out.begin⟩ HA01).mono ?_
    rintro e_ w01 ⟨rfl, hS⟩
    replace HS : Aside0 (Sep FF w [b6 g01 A00 l00.length n00 t01.2.1, r5 A00 l00.length n00 t01.2.2, b7 g00 g01 a01 a02 a03 a04] w01) := ⟨HS.out.call hS⟩
    clear hS
    go_wp2_with fail
    go_ret
    rw [← some_eq H]
    exact ⟨(by first | rfl | (simp [IntKind.wrap_u32]; done)), ((((HS.out).front 1 (by simp)).front 1 (by simp)).front 2 (by simp)).keep (l := [b7 g00 g01 a01 a02 a03 a04, b6 g01 A00 l00.length n00 t01.2.1, r5 A00 l00.length n00 t01.2.2]) (rest := [])⟩

set_option maxHeartbeats 30000000 in
set_option maxRecDepth 100000 in
theorem ground_Ground_SetReg.calls (l00 : List Int) (a00 : Int) (a01 : Int) (a02 : Int) (a03 : Int) (a04 : Int) (a05 : Int) (a06 : Int) (g00 : Nat) (g01 : Nat) (A00 : Option Addr) (m00 : Nat) (n00 : Nat) (r : Bool × Int × List Int) (w : World)   (HS : Aside0 (Sep (fps [b7 g00 g01 a01 a02 a03 a04, b6 g01 A00 m00 n00 a00, r5 A00 m00 n00 l00]) w [b7 g00 g01 a01 a02 a03 a04, b6 g01 A00 m00 n00 a00, r5 A00 m00 n00 l00] w)) (H : Aside0 (ground_Ground_SetReg.f l00 a00 a01 a02 a03 a04 a05 a06 = some r)) :
    Calls Try.prog 42 #[.pointer (some ⟨g00, 0, none⟩), .int .i64 a05, .int .i64 a06] w fun e w' => e = .returned (.bool r.1) ∧ Sep (fps [b7 g00 g01 a01 a02 a03 a04, b6 g01 A00 m00 n00 a00, r5 A00 m00 n00 l00]) w [b7 g00 g01 a01 a02 a03 a04, b6 g01 A00 m00 n00 r.2.1, r5 A00 m00 n00 r.2.2] w' := by
  generalize (fps [b7 g00 g01 a01 a02 a03 a04, b6 g01 A00 m00 n00 a00, r5 A00 m00 n00 l00]) = FF at HS ⊢
  obtain rfl := (row_len (HS.out.at2)).symm
  unfold ground_Ground_SetReg.f at H
  go_enter Try.func42, Try.ntmps42
  go_wp2_with fail
  obtain ⟨t00, HA00, H⟩ := bind_some H
  refine (ground_reg.calls a05 t00 _ ⟨Sep.start _⟩ HA00).mono ?_
  rintro e_ w00 ⟨rfl, hS⟩
  replace HS : Aside0 (Sep FF w [b7 g00 g01 a01 a02 a03 a04, b6 g01 A00 l00.length n00 a00, r5 A00 l00.length n00 l00] w00) := ⟨HS.out.call hS⟩
  clear hS
  go_wp2_with fail
  obtain ⟨t01, HA01, H⟩ := bind_some H
  refine (ground_Ground_set.calls l00 a00 a01 a02 a03 a04 t00 a06 g00 g01 A00 l00.length n00 t01 _ ⟨HS.out.begin⟩ HA01).mono ?_
  rintro e_ w01 ⟨rfl, hS⟩
  replace HS : Aside0 (Sep FF w [b7 g00 g01 a01 a02 a03 a04, b6 g01 A00 l00.length n00 t01.2.1, r5 A00 l00.length n00 t01.2.2] w01) := ⟨HS.out.call hS⟩
  clear hS
  go_wp2_with fail
  go_ret
  rw [← some_eq H]
  exact ⟨(by first | rfl | (simp [IntKind.wrap_u32]; done)), HS.out⟩

set_option maxHeartbeats 30000000 in
set_option maxRecDepth 100000 in
theorem chain_Add_1.calls (a00 : Int) (a01 : Int) (a02 : Int) (a03 : Int) (a04 : Int) (l00 : List Int) (a05 : Int) (a06 : Int) (a07 : Int) (a08 : Int) (a09 : Int) (a10 : Int) (g00 : Nat) (g01 : Nat) (g02 : Nat) (A00 : Option Addr) (m00 : Nat) (n00 : Nat) (g03 : Nat) (r : Int × List Int) (w : World)   (HS : Aside0 (Sep (fps [b8 g00 g01, b7 g01 g02 a06 a07 a08 a09, b6 g02 A00 m00 n00 a05, r5 A00 m00 n00 l00, b9 g03 a10]) w [b8 g00 g01, b7 g01 g02 a06 a07 a08 a09, b6 g02 A00 m00 n00 a05, r5 A00 m00 n00 l00, b9 g03 a10] w)) (H : Aside0 (chain_Add_1.f a00 a01 a02 a03 a04 l00 a05 a06 a07 a08 a09 a10 = some r)) :
    Calls Try.prog 89 #[.agg #[.int .i64 a00, .int .i64 a01, .int .i64 a02], .int .i64 a03, .int .i64 a04, .pointer (some ⟨g00, 0, none⟩), .pointer (some ⟨g03, 0, none⟩)] w fun e w' => e = .returned (.tuple #[]) ∧ Sep (fps [b8 g00 g01, b7 g01 g02 a06 a07 a08 a09, b6 g02 A00 m00 n00 a05, r5 A00 m00 n00 l00, b9 g03 a10]) w [b8 g00 g01, b7 g01 g02 a06 a07 a08 a09, b6 g02 A00 m00 n00 r.1, r5 A00 m00 n00 r.2, b9 g03 a10] w' := by
  generalize (fps [b8 g00 g01, b7 g01 g02 a06 a07 a08 a09, b6 g02 A00 m00 n00 a05, r5 A00 m00 n00 l00, b9 g03 a10]) = FF at HS ⊢
  obtain rfl := (row_len (HS.out.at3)).symm
  unfold chain_Add_1.f at H
  go_enter Try.func89, Try.ntmps89
  go_wp2_with (first | ((with_reducible refine gate_dst (N := 5) rfl ?_); refine box_on ?hg (N := 5) ?hd (cs := #[.int .i64 a00, .int .i64 a01, .int .i64 a02]) (t := 134) ?hr ?_; (case hd => rfl); (case hg => rfl); (case hr => first | (go_simp; done) | (go_simp; rfl)); intro g04 hg w00 hbox hb; replace HS : Aside0 (Sep FF w [b8 g00 g01, b7 g01 g02 a06 a07 a08 a09, b6 g02 A00 l00.length n00 a05, r5 A00 l00.length n00 l00, b9 g03 a10, b10 g04 a00 a01 a02] w00) := ⟨HS.out.box hg hbox hb⟩; clear hg hbox hb; have hc00 : w00.cell? ⟨g00, 0, none⟩ = some (.pointer (some ⟨g01, 0, none⟩)) := blk_cellv (HS.out.at0) 0 rfl; have hc01 : w00.cell? ⟨g03, 0, none⟩ = some (.int .i64 a10) := blk_cellv (HS.out.at4) 0 rfl))
  clear hc00 hc01
  replace HS : Aside0 (Sep FF w [b7 g01 g02 a06 a07 a08 a09, b6 g02 A00 l00.length n00 a05, r5 A00 l00.length n00 l00, b8 g00 g01, b9 g03 a10, b10 g04 a00 a01 a02] w00) := ⟨(((HS.out).front 3 (by simp)).front 3 (by simp)).front 3 (by simp)⟩
  obtain ⟨t00, HA00, H⟩ := bind_some H
  refine (ground_Ground_SetWord.calls l00 a05 a06 a07 a08 a09 a10 5 0 g01 g02 A00 l00.length n00 t00 _ ⟨HS.out.begin⟩ HA00).mono ?_
  rintro e_ w01 ⟨rfl, hS⟩
  replace HS : Aside0 (Sep FF w [b7 g01 g02 a06 a07 a08 a09, b6 g02 A00 l00.length n00 t00.2.1, r5 A00 l00.length n00 t00.2.2, b8 g00 g01, b9 g03 a10, b10 g04 a00 a01 a02] w01) := ⟨HS.out.call hS⟩
  clear hS
  by_cases c00 : a04 = 0
  ·replace H := if_yes c00 H
   have c00b0 : (a04 == 0) = true := beq_iff_eq.mpr c00
   have c00b1 : (a04 != 0) = false := bne_eq_false_iff_eq.mpr c00
   clear c00
   have hc02 : w01.cell? ⟨g00, 0, none⟩ = some (.pointer (some ⟨g01, 0, none⟩)) := blk_cellv (HS.out.at3) 0 rfl
   have hc03 : w01.cell? ⟨g04, 0, none⟩ = some (.int .i64 a00) := blk_cellv (HS.out.at5) 0 rfl
   go_wp2_with fail
   clear hc02 hc03
   obtain ⟨t01, HA01, H⟩ := bind_some H
   refine (ground_Ground_SetReg.calls t00.2.2 t00.2.1 a06 a07 a08 a09 a00 a03 g01 g02 A00 l00.length n00 t01 _ ⟨HS.out.begin⟩ HA01).mono ?_
   rintro e_ w02 ⟨rfl, hS⟩
   replace HS : Aside0 (Sep FF w [b7 g01 g02 a06 a07 a08 a09, b6 g02 A00 l00.length n00 t01.2.1, r5 A00 l00.length n00 t01.2.2, b8 g00 g01, b9 g03 a10, b10 g04 a00 a01 a02] w02) := ⟨HS.out.call hS⟩
   clear hS
   have hc04 : w02.cell? ⟨g00, 0, none⟩ = some (.pointer (some ⟨g01, 0, none⟩)) := blk_cellv (HS.out.at3) 0 rfl
   have hc05 : w02.cell? ⟨g04, 1, none⟩ = some (.int .i64 a01) := blk_cellv (HS.out.at5) 1 rfl
   go_wp2_with fail
   clear hc04 hc05
   obtain ⟨t02, HA02, H⟩ := bind_some H
   refine (ground_Ground_SetReg.calls t01.2.2 t01.2.1 a06 a07 a08 a09 a01 a03 g01 g02 A00 l00.length n00 t02 _ ⟨HS.out.begin⟩ HA02).mono ?_
   rintro e_ w03 ⟨rfl, hS⟩
   replace HS : Aside0 (Sep FF w [b7 g01 g02 a06 a07 a08 a09, b6 g02 A00 l00.length n00 t02.2.1, r5 A00 l00.length n00 t02.2.2, b8 g00 g01, b9 g03 a10, b10 g04 a00 a01 a02] w03) := ⟨HS.out.call hS⟩
   clear hS
   replace HS : Aside0 (Sep FF w [b7 g01 g02 a06 a07 a08 a09, b6 g02 A00 l00.length n00 t02.2.1, r5 A00 l00.length n00 t02.2.2, b8 g00 g01, b9 g03 a10] w03) := ⟨HS.out.sub (.cons_cons _ (.cons_cons _ (.cons_cons _ (.cons_cons _ (.cons_cons _ (.cons _ .slnil))))))⟩
   go_wp2_with fail
   first | go_end0 | refine bodyPost_ret (results_none rfl _ _ _) rfl ?_
   rw [← some_eq H]
   exact ⟨rfl, ((((((HS.out).front 4 (by simp)).front 3 (by simp)).front 3 (by simp)).front 3 (by simp)).front 4 (by simp)).keep (l := [b8 g00 g01, b7 g01 g02 a06 a07 a08 a09, b6 g02 A00 l00.length n00 t02.2.1, r5 A00 l00.length n00 t02.2.2, b9 g03 a10]) (rest := [])⟩
  ·replace H := if_no c00 H
   have c00b0 : (a04 == 0) = false := beq_eq_false_iff_ne.mpr c00
   have c00b1 : (a04 != 0) = true := bne_iff_ne.mpr c00
   clear c00
   go_wp2_with fail
   refine start_ (n := 9) (S := (fun w' => w'.cell? ⟨g00, 0, none⟩ = some (.pointer (some ⟨g01, 0, none⟩)) ∧ w'.cell? ⟨g04, 1, none⟩ = some (.int .i64 a01))) (ds := []) #[false, false, false, false, false, false, false, false, false] (by kernel_rfl) rfl rfl (⟨blk_cellv ((HS.out.drew).at3) 0 rfl, blk_cellv ((HS.out.drew).at5) 1 rfl⟩) (fun hHeld => ?_)
   have HS_ := Aside0.mk HS.out.drew
   clear HS
   generalize World.drew _ = w04 at HS_ hHeld ⊢
   have HS := HS_
   clear HS_
   refine pure_ (i := 2) (N := some 20) (v := ?_) (a' := ?_) #[false, false, true, false, false, false, false, false, false] rfl rfl (by kernel_rfl) (fun _ _ _ h => h) (Or.inl ⟨by rfl, ?_⟩) ?_ ?_
   rotate_left
   ·intro w'
    go_simp
    with_reducible rfl
   rotate_left
   ·simp only [Act.put, List.setIfInBounds_toArray, List.set_cons_zero, List.set_cons_succ, i64_w, i32_w]
    rfl
   refine pure_ (i := 6) (N := some 24) (v := ?_) (a' := ?_) #[false, false, true, false, false, false, true, false, false] rfl rfl (by kernel_rfl) (fun _ _ _ h => h) (Or.inl ⟨by rfl, ?_⟩) ?_ ?_
   rotate_left
   ·intro w'
    go_simp
    with_reducible rfl
   rotate_left
   ·simp only [Act.put, List.setIfInBounds_toArray, List.set_cons_zero, List.set_cons_succ, i64_w, i32_w]
    rfl
   refine pure_ (i := 7) (N := some 25) (v := ?_) (a' := ?_) #[false, false, true, false, false, false, true, true, false] rfl rfl (by kernel_rfl) (fun _ _ _ h => h) (Or.inl ⟨by rfl, ?_⟩) ?_ ?_
   rotate_left
   ·intro w'
    go_simp
    with_reducible rfl
   rotate_left
   ·simp only [Act.put, List.setIfInBounds_toArray, List.set_cons_zero, List.set_cons_succ, i64_w, i32_w]
    rfl
   refine take_ (i := 0) (N := some 18) (v := ?_) (a' := ?_) #[true, false, true, false, false, false, true, true, false] rfl rfl (by kernel_rfl) (fun _ _ _ h => h) (Or.inl ⟨by rfl, ?_⟩) hHeld ?_ ?_
   rotate_left
   ·rintro w' hS'
    obtain ⟨s0, s1⟩ := hS'
    go_simp
    with_reducible rfl
   rotate_left
   ·simp only [Act.put, List.setIfInBounds_toArray, List.set_cons_zero, List.set_cons_succ, i64_w, i32_w]
    rfl
   refine take_ (i := 1) (N := some 19) (v := ?_) (a' := ?_) #[true, true, true, false, false, false, true, true, false] rfl rfl (by kernel_rfl) (fun _ _ _ h => h) (Or.inl ⟨by rfl, ?_⟩) hHeld ?_ ?_
   rotate_left
   ·rintro w' hS'
    obtain ⟨s0, s1⟩ := hS'
    go_simp
    with_reducible rfl
   rotate_left
   ·simp only [Act.put, List.setIfInBounds_toArray, List.set_cons_zero, List.set_cons_succ, i64_w, i32_w]
    rfl
   refine take_ (i := 3) (N := some 21) (v := ?_) (a' := ?_) #[true, true, true, true, false, false, true, true, false] rfl rfl (by kernel_rfl) (fun _ _ _ h => h) (Or.inl ⟨by rfl, ?_⟩) hHeld ?_ ?_
   rotate_left
   ·rintro w' hS'
    obtain ⟨s0, s1⟩ := hS'
    go_simp
    with_reducible rfl
   rotate_left
   ·simp only [Act.put, List.setIfInBounds_toArray, List.set_cons_zero, List.set_cons_succ, i64_w, i32_w]
    rfl
   refine one_ (i := 4) (N := some 22) #[true, true, true, true, true, false, true, true, false] rfl rfl (by kernel_rfl) (by decide) (fun K hK => ?_)
   obtain ⟨t03, HA03, H⟩ := bind_some H
   refine goes_ Try.func36 (by kernel_rfl) rfl #[.pointer (some ⟨g01, 0, none⟩), .int .i64 a01] (by rfl) rfl rfl (by (try simp only [List.map_toArray, List.map_cons, List.map_nil]); first | done | rfl) ?_
   refine (ground_Ground_Reg.calls t00.2.2 t00.2.1 a06 a07 a08 a09 a01 g01 g02 A00 l00.length n00 t03 _ ⟨HS.out.begin⟩ HA03).mono ?_
   rintro e_ w05 ⟨rfl, hS⟩
   replace HS : Aside0 (Sep FF w [b7 g01 g02 a06 a07 a08 a09, b6 g02 A00 l00.length n00 t03.2, r5 A00 l00.length n00 t00.2.2, b8 g00 g01, b9 g03 a10, b10 g04 a00 a01 a02] w05) := ⟨HS.out.call hS⟩
   clear hS
   refine ⟨_, rfl, ?_⟩
   refine hK.out _ _ (⟨blk_cellv (HS.out.at3) 0 rfl, blk_cellv (HS.out.at5) 1 rfl⟩) (fun hHeld => ?_)
   clear hK K
   refine norm_ (a' := ?_) ?_ ?_
   rotate_left
   ·show Act.put _ (some 22) _ = _
    simp only [Act.put, List.setIfInBounds_toArray, List.set_cons_zero, List.set_cons_succ, i64_w, i32_w]
    rfl
   refine pure_ (i := 5) (N := some 23) (v := ?_) (a' := ?_) #[true, true, true, true, true, true, true, true, false] rfl rfl (by kernel_rfl) (fun _ _ _ h => h) (Or.inl ⟨by rfl, ?_⟩) ?_ ?_
   rotate_left
   ·intro w'
    go_simp
    with_reducible rfl
   rotate_left
   ·simp only [Act.put, List.setIfInBounds_toArray, List.set_cons_zero, List.set_cons_succ, i64_w, i32_w]
    rfl
   refine one_ (i := 8) (N := some 26) #[true, true, true, true, true, true, true, true, true] rfl rfl (by kernel_rfl) (by decide) (fun K hK => ?_)
   obtain ⟨t04, HA04, H⟩ := bind_some H
   refine goes_ Try.func46 (by kernel_rfl) rfl #[.pointer (some ⟨g01, 0, none⟩), .int .i64 (wrap64 (t03.1 - 1)), .int .i64 5, .int .u32 ((a03) % 4294967296)] (by rfl) rfl rfl (by (try simp only [List.map_toArray, List.map_cons, List.map_nil]); first | done | rfl) ?_
   refine (ground_Ground_SetWord.calls t00.2.2 t03.2 a06 a07 a08 a09 (wrap64 (t03.1 - 1)) 5 ((a03) % 4294967296) g01 g02 A00 l00.length n00 t04 _ ⟨HS.out.begin⟩ HA04).mono ?_
   rintro e_ w06 ⟨rfl, hS⟩
   replace HS : Aside0 (Sep FF w [b7 g01 g02 a06 a07 a08 a09, b6 g02 A00 l00.length n00 t04.2.1, r5 A00 l00.length n00 t04.2.2, b8 g00 g01, b9 g03 a10, b10 g04 a00 a01 a02] w06) := ⟨HS.out.call hS⟩
   clear hS
   refine ⟨_, rfl, ?_⟩
   refine hK.out _ _ (⟨blk_cellv (HS.out.at3) 0 rfl, blk_cellv (HS.out.at5) 1 rfl⟩) (fun hHeld => ?_)
   clear hK K
   refine norm_ (a' := ?_) ?_ ?_
   rotate_left
   ·show Act.put _ (some 26) _ = _
    simp only [Act.put, List.setIfInBounds_toArray, List.set_cons_zero, List.set_cons_succ, i64_w, i32_w]
    rfl
   refine done_ (by kernel_rfl) ?_
   have hc06 : w06.cell? ⟨g00, 0, none⟩ = some (.pointer (some ⟨g01, 0, none⟩)) := blk_cellv (HS.out.at3) 0 rfl
   have hc07 : w06.cell? ⟨g04, 1, none⟩ = some (.int .i64 a01) := blk_cellv (HS.out.at5) 1 rfl
   go_wp2_with fail
   clear hc06 hc07
   obtain ⟨t02, HA05, H⟩ := bind_some H
   refine (ground_Ground_SetReg.calls t04.2.2 t04.2.1 a06 a07 a08 a09 a01 a03 g01 g02 A00 l00.length n00 t02 _ ⟨HS.out.begin⟩ HA05).mono ?_
   rintro e_ w07 ⟨rfl, hS⟩
   replace HS : Aside0 (Sep FF w [b7 g01 g02 a06 a07 a08 a09, b6 g02 A00 l00.length n00 t02.2.1, r5 A00 l00.length n00 t02.2.2, b8 g00 g01, b9 g03 a10, b10 g04 a00 a01 a02] w07) := ⟨HS.out.call hS⟩
   clear hS
   replace HS : Aside0 (Sep FF w [b7 g01 g02 a06 a07 a08 a09, b6 g02 A00 l00.length n00 t02.2.1, r5 A00 l00.length n00 t02.2.2, b8 g00 g01, b9 g03 a10] w07) := ⟨HS.out.sub (.cons_cons _ (.cons_cons _ (.cons_cons _ (.cons_cons _ (.cons_cons _ (.cons _ .slnil))))))⟩
   go_wp2_with fail
   first | go_end0 | refine bodyPost_ret (results_none rfl _ _ _) rfl ?_
   rw [← some_eq H]
   exact ⟨rfl, ((((((HS.out).front 4 (by simp)).front 3 (by simp)).front 3 (by simp)).front 3 (by simp)).front 4 (by simp)).keep (l := [b8 g00 g01, b7 g01 g02 a06 a07 a08 a09, b6 g02 A00 l00.length n00 t02.2.1, r5 A00 l00.length n00 t02.2.2, b9 g03 a10]) (rest := [])⟩

set_option maxHeartbeats 30000000 in
set_option maxRecDepth 100000 in
theorem chain_put_F89.calls (l00 : List Int) (a00 : Int) (a01 : Int) (a02 : Int) (a03 : Int) (a04 : Int) (a05 : Int) (a06 : Int) (a07 : Int) (g00 : Nat) (g01 : Nat) (A00 : Option Addr) (m00 : Nat) (n00 : Nat) (g02 : Nat) (g03 : Nat) (r : Bool × Int × List Int) (w : World)   (HS : Aside0 (Sep (fps [b7 g00 g01 a01 a02 a03 a04, b6 g01 A00 m00 n00 a00, r5 A00 m00 n00 l00, b8 g02 g00, b9 g03 a07]) w [b7 g00 g01 a01 a02 a03 a04, b6 g01 A00 m00 n00 a00, r5 A00 m00 n00 l00, b8 g02 g00, b9 g03 a07] w)) (H : Aside0 (chain_put_F89.f l00 a00 a01 a02 a03 a04 a05 a06 a07 = some r)) :
    Calls Try.prog 88 #[.pointer (some ⟨g00, 0, none⟩), .int .i64 a05, .int .i64 a06, .func (.func 89) #[] #[.pointer (some ⟨g02, 0, none⟩), .pointer (some ⟨g03, 0, none⟩)]] w fun e w' => e = .returned (.bool r.1) ∧ Sep (fps [b7 g00 g01 a01 a02 a03 a04, b6 g01 A00 m00 n00 a00, r5 A00 m00 n00 l00, b8 g02 g00, b9 g03 a07]) w [b7 g00 g01 a01 a02 a03 a04, b6 g01 A00 m00 n00 r.2.1, r5 A00 m00 n00 r.2.2, b8 g02 g00, b9 g03 a07] w' := by
  generalize (fps [b7 g00 g01 a01 a02 a03 a04, b6 g01 A00 m00 n00 a00, r5 A00 m00 n00 l00, b8 g02 g00, b9 g03 a07]) = FF at HS ⊢
  obtain rfl := (row_len (HS.out.at2)).symm
  unfold chain_put_F89.f at H
  go_enter Try.func88, Try.ntmps88
  go_wp2_with fail
  obtain ⟨t00, HA00, H⟩ := bind_some H
  refine (chain_of.calls l00 a00 a01 a02 a03 a04 a05 g00 g01 A00 l00.length n00 t00 _ ⟨HS.out.begin⟩ HA00).mono ?_
  rintro e_ w00 ⟨rfl, hS⟩
  replace HS : Aside0 (Sep FF w [b7 g00 g01 a01 a02 a03 a04, b6 g01 A00 l00.length n00 a00, r5 A00 l00.length n00 l00, b8 g02 g00, b9 g03 a07] w00) := ⟨HS.out.call hS⟩
  clear hS
  by_cases c00 : t00.2.2.2 = true
  ·replace H := if_yes c00 H
   have c00b0 : t00.2.2.2 = true := c00
   have c00b1 : (!t00.2.2.2) = false := by rw [c00b0]; rfl
   try rw [c00b1]
   clear c00
   by_cases c01 : a06 < 0
   ·replace H := if_yes c01 H
    have c01b0 : decide (a06 < 0) = true := decide_eq_true c01
    clear c01
    go_wp2_with (first | ((with_reducible refine gate_dst (N := 9) rfl ?_); refine box_on ?hg (N := 9) ?hd (cs := #[.int .i64 0, .int .i64 0, .int .i64 0]) (t := 134) ?hr ?_; (case hd => rfl); (case hg => rfl); (case hr => first | (go_simp; done) | (go_simp; rfl)); intro g04 hg w01 hbox hb; replace HS : Aside0 (Sep FF w [b7 g00 g01 a01 a02 a03 a04, b6 g01 A00 l00.length n00 a00, r5 A00 l00.length n00 l00, b8 g02 g00, b9 g03 a07, b10 g04 0 0 0] w01) := ⟨HS.out.box hg hbox hb⟩; clear hg hbox hb; have hc00 : w01.cell? ⟨g04, 0, none⟩ = some (.int .i64 0) := blk_cellv (HS.out.at5) 0 rfl; have hz00 : w01.frozen? ⟨g04, 0, none⟩ = false := blk_fz (HS.out.at5) 0; have hc01 : w01.cell? ⟨g04, 1, none⟩ = some (.int .i64 0) := blk_cellv (HS.out.at5) 1 rfl; have hz01 : w01.frozen? ⟨g04, 1, none⟩ = false := blk_fz (HS.out.at5) 1; have hc02 : w01.cell? ⟨g04, 2, none⟩ = some (.int .i64 0) := blk_cellv (HS.out.at5) 2 rfl; have hz02 : w01.frozen? ⟨g04, 2, none⟩ = false := blk_fz (HS.out.at5) 2) | ((with_reducible refine gate_store (t := 134) (p := 9) rfl ?_); refine store_event (w1 := (World.setCell (World.setCell (World.setCell w01 ⟨g04, 0, none⟩ (.int .i64 t00.1)) ⟨g04, 1, none⟩ (.int .i64 t00.2.1)) ⟨g04, 2, none⟩ (.int .i64 t00.2.2.1))) rfl (t := 134) (p := 9) rfl rfl ?hr ?_; (case hr => first | (go_simp; done) | (go_simp; rfl)); intro w02 hst; clear hc00 hz00 hc01 hz01 hc02 hz02; replace HS : Aside0 (Sep FF w [b7 g00 g01 a01 a02 a03 a04, b6 g01 A00 l00.length n00 a00, r5 A00 l00.length n00 l00, b8 g02 g00, b9 g03 a07, b10 g04 t00.1 t00.2.1 t00.2.2.1] w02) := ⟨by rw [hst]; exact HS.out.setAll (l1 := [b7 g00 g01 a01 a02 a03 a04, b6 g01 A00 l00.length n00 a00, r5 A00 l00.length n00 l00, b8 g02 g00, b9 g03 a07]) (l2 := []) [.int .i64 t00.1, .int .i64 t00.2.1, .int .i64 t00.2.2.1] rfl⟩; clear hst; replace HS : Aside0 (Sep FF w [b7 g00 g01 a01 a02 a03 a04, b6 g01 A00 l00.length n00 a00, r5 A00 l00.length n00 l00, b8 g02 g00, b9 g03 a07] w02) := ⟨HS.out.sub (.cons_cons _ (.cons_cons _ (.cons_cons _ (.cons_cons _ (.cons_cons _ (.cons _ .slnil))))))⟩))
    go_ret
    rw [← some_eq H]
    exact ⟨(by first | rfl | (simp [IntKind.wrap_u32]; done)), HS.out⟩
   ·replace H := if_no c01 H
    have c01b0 : decide (a06 < 0) = false := decide_eq_false c01
    clear c01
    go_wp2_with (first | ((with_reducible refine gate_dst (N := 9) rfl ?_); refine box_on ?hg (N := 9) ?hd (cs := #[.int .i64 0, .int .i64 0, .int .i64 0]) (t := 134) ?hr ?_; (case hd => rfl); (case hg => rfl); (case hr => first | (go_simp; done) | (go_simp; rfl)); intro g04 hg w01 hbox hb; replace HS : Aside0 (Sep FF w [b7 g00 g01 a01 a02 a03 a04, b6 g01 A00 l00.length n00 a00, r5 A00 l00.length n00 l00, b8 g02 g00, b9 g03 a07, b10 g04 0 0 0] w01) := ⟨HS.out.box hg hbox hb⟩; clear hg hbox hb; have hc00 : w01.cell? ⟨g04, 0, none⟩ = some (.int .i64 0) := blk_cellv (HS.out.at5) 0 rfl; have hz00 : w01.frozen? ⟨g04, 0, none⟩ = false := blk_fz (HS.out.at5) 0; have hc01 : w01.cell? ⟨g04, 1, none⟩ = some (.int .i64 0) := blk_cellv (HS.out.at5) 1 rfl; have hz01 : w01.frozen? ⟨g04, 1, none⟩ = false := blk_fz (HS.out.at5) 1; have hc02 : w01.cell? ⟨g04, 2, none⟩ = some (.int .i64 0) := blk_cellv (HS.out.at5) 2 rfl; have hz02 : w01.frozen? ⟨g04, 2, none⟩ = false := blk_fz (HS.out.at5) 2) | ((with_reducible refine gate_store (t := 134) (p := 9) rfl ?_); refine store_event (w1 := (World.setCell (World.setCell (World.setCell w01 ⟨g04, 0, none⟩ (.int .i64 t00.1)) ⟨g04, 1, none⟩ (.int .i64 t00.2.1)) ⟨g04, 2, none⟩ (.int .i64 t00.2.2.1))) rfl (t := 134) (p := 9) rfl rfl ?hr ?_; (case hr => first | (go_simp; done) | (go_simp; rfl)); intro w02 hst; clear hc00 hz00 hc01 hz01 hc02 hz02; replace HS : Aside0 (Sep FF w [b7 g00 g01 a01 a02 a03 a04, b6 g01 A00 l00.length n00 a00, r5 A00 l00.length n00 l00, b8 g02 g00, b9 g03 a07, b10 g04 t00.1 t00.2.1 t00.2.2.1] w02) := ⟨by rw [hst]; exact HS.out.setAll (l1 := [b7 g00 g01 a01 a02 a03 a04, b6 g01 A00 l00.length n00 a00, r5 A00 l00.length n00 l00, b8 g02 g00, b9 g03 a07]) (l2 := []) [.int .i64 t00.1, .int .i64 t00.2.1, .int .i64 t00.2.2.1] rfl⟩; clear hst))
    obtain ⟨t01, HA01, H⟩ := bind_some H
    refine (ground_Ground_Conf.calls l00 a00 a01 a02 a03 a04 g00 g01 A00 l00.length n00 t01 _ ⟨HS.out.begin⟩ HA01).mono ?_
    rintro e_ w03 ⟨rfl, hS⟩
    replace HS : Aside0 (Sep FF w [b7 g00 g01 a01 a02 a03 a04, b6 g01 A00 l00.length n00 a00, r5 A00 l00.length n00 l00, b8 g02 g00, b9 g03 a07, b10 g04 t00.1 t00.2.1 t00.2.2.1] w03) := ⟨HS.out.call hS⟩
    clear hS
    by_cases c02 : a06 ≥ t01.1
    ·replace H := if_yes c02 H
     have c02b0 : decide (t01.1 ≤ a06) = true := decide_eq_true c02
     clear c02
     have fl00 : ∀ w, (Instr.field 49 (.agg #[.int .i64 t01.1, .int .i64 t01.2.1, .int .i64 t01.2.2.1, .int .i64 t01.2.2.2]) 0).run Try.prog w = .ok (.int .i64 t01.1) w := fun _ => by kernel_rfl
     replace HS : Aside0 (Sep FF w [b7 g00 g01 a01 a02 a03 a04, b6 g01 A00 l00.length n00 a00, r5 A00 l00.length n00 l00, b8 g02 g00, b9 g03 a07] w03) := ⟨HS.out.sub (.cons_cons _ (.cons_cons _ (.cons_cons _ (.cons_cons _ (.cons_cons _ (.cons _ .slnil))))))⟩
     go_wp2_with fail
     clear fl00
     go_ret
     rw [← some_eq H]
     exact ⟨(by first | rfl | (simp [IntKind.wrap_u32]; done)), HS.out⟩
    ·replace H := if_no c02 H
     have c02b0 : decide (t01.1 ≤ a06) = false := decide_eq_false c02
     clear c02
     have fl00 : ∀ w, (Instr.field 49 (.agg #[.int .i64 t01.1, .int .i64 t01.2.1, .int .i64 t01.2.2.1, .int .i64 t01.2.2.2]) 0).run Try.prog w = .ok (.int .i64 t01.1) w := fun _ => by kernel_rfl
     have hc03 : w03.cell? ⟨g04, 2, none⟩ = some (.int .i64 t00.2.2.1) := blk_cellv (HS.out.at5) 2 rfl
     go_wp2_with fail
     clear fl00 hc03
     obtain ⟨t02, HA02, H⟩ := bind_some H
     refine (ground_Ground_Reg.calls l00 a00 a01 a02 a03 a04 t00.2.2.1 g00 g01 A00 l00.length n00 t02 _ ⟨HS.out.begin⟩ HA02).mono ?_
     rintro e_ w04 ⟨rfl, hS⟩
     replace HS : Aside0 (Sep FF w [b7 g00 g01 a01 a02 a03 a04, b6 g01 A00 l00.length n00 t02.2, r5 A00 l00.length n00 l00, b8 g02 g00, b9 g03 a07, b10 g04 t00.1 t00.2.1 t00.2.2.1] w04) := ⟨HS.out.call hS⟩
     clear hS
     have hc04 : w04.cell? ⟨g04, 0, none⟩ = some (.int .i64 t00.1) := blk_cellv (HS.out.at5) 0 rfl
     have hc05 : w04.cell? ⟨g04, 1, none⟩ = some (.int .i64 t00.2.1) := blk_cellv (HS.out.at5) 1 rfl
     have hc06 : w04.cell? ⟨g04, 2, none⟩ = some (.int .i64 t00.2.2.1) := blk_cellv (HS.out.at5) 2 rfl
     go_wp2_with fail
     clear hc04 hc05 hc06
     replace HS : Aside0 (Sep FF w [b8 g02 g00, b7 g00 g01 a01 a02 a03 a04, b6 g01 A00 l00.length n00 t02.2, r5 A00 l00.length n00 l00, b9 g03 a07, b10 g04 t00.1 t00.2.1 t00.2.2.1] w04) := ⟨(((((HS.out).front 4 (by simp)).front 3 (by simp)).front 3 (by simp)).front 3 (by simp)).front 4 (by simp)⟩
     obtain ⟨t03, HA03, H⟩ := bind_some H
     refine (chain_Add_1.calls t00.1 t00.2.1 t00.2.2.1 (wrap64 (a06 + 1)) t02.1 l00 t02.2 a01 a02 a03 a04 a07 g02 g00 g01 A00 l00.length n00 g03 t03 _ ⟨HS.out.begin⟩ HA03).mono ?_
     rintro e_ w05 ⟨rfl, hS⟩
     replace HS : Aside0 (Sep FF w [b8 g02 g00, b7 g00 g01 a01 a02 a03 a04, b6 g01 A00 l00.length n00 t03.1, r5 A00 l00.length n00 t03.2, b9 g03 a07, b10 g04 t00.1 t00.2.1 t00.2.2.1] w05) := ⟨HS.out.call hS⟩
     clear hS
     have hc07 : w05.cell? ⟨g04, 2, none⟩ = some (.int .i64 t00.2.2.1) := blk_cellv (HS.out.at5) 2 rfl
     go_wp2_with fail
     clear hc07
     replace HS : Aside0 (Sep FF w [b7 g00 g01 a01 a02 a03 a04, b6 g01 A00 l00.length n00 t03.1, r5 A00 l00.length n00 t03.2, b8 g02 g00, b9 g03 a07, b10 g04 t00.1 t00.2.1 t00.2.2.1] w05) := ⟨(((HS.out).front 3 (by simp)).front 3 (by simp)).front 3 (by simp)⟩
     obtain ⟨t04, HA04, H⟩ := bind_some H
     refine (ground_Ground_SetReg.calls t03.2 t03.1 a01 a02 a03 a04 t00.2.2.1 (wrap64 (t02.1 + 1)) g00 g01 A00 l00.length n00 t04 _ ⟨HS.out.begin⟩ HA04).mono ?_
     rintro e_ w06 ⟨rfl, hS⟩
     replace HS : Aside0 (Sep FF w [b7 g00 g01 a01 a02 a03 a04, b6 g01 A00 l00.length n00 t04.2.1, r5 A00 l00.length n00 t04.2.2, b8 g02 g00, b9 g03 a07, b10 g04 t00.1 t00.2.1 t00.2.2.1] w06) := ⟨HS.out.call hS⟩
     clear hS
     replace HS : Aside0 (Sep FF w [b7 g00 g01 a01 a02 a03 a04, b6 g01 A00 l00.length n00 t04.2.1, r5 A00 l00.length n00 t04.2.2, b8 g02 g00, b9 g03 a07] w06) := ⟨HS.out.sub (.cons_cons _ (.cons_cons _ (.cons_cons _ (.cons_cons _ (.cons_cons _ (.cons _ .slnil))))))⟩
     go_wp2_with fail
     go_ret
     rw [← some_eq H]
     exact ⟨(by first | rfl | (simp [IntKind.wrap_u32]; done)), HS.out⟩
  ·replace H := if_no c00 H
   have c00b0 : t00.2.2.2 = false := by simpa using c00
   have c00b1 : (!t00.2.2.2) = true := by rw [c00b0]; rfl
   try rw [c00b1]
   clear c00
   go_wp2_with (first | ((with_reducible refine gate_dst (N := 9) rfl ?_); refine box_on ?hg (N := 9) ?hd (cs := #[.int .i64 0, .int .i64 0, .int .i64 0]) (t := 134) ?hr ?_; (case hd => rfl); (case hg => rfl); (case hr => first | (go_simp; done) | (go_simp; rfl)); intro g04 hg w01 hbox hb; replace HS : Aside0 (Sep FF w [b7 g00 g01 a01 a02 a03 a04, b6 g01 A00 l00.length n00 a00, r5 A00 l00.length n00 l00, b8 g02 g00, b9 g03 a07, b10 g04 0 0 0] w01) := ⟨HS.out.box hg hbox hb⟩; clear hg hbox hb; have hc00 : w01.cell? ⟨g04, 0, none⟩ = some (.int .i64 0) := blk_cellv (HS.out.at5) 0 rfl; have hz00 : w01.frozen? ⟨g04, 0, none⟩ = false := blk_fz (HS.out.at5) 0; have hc01 : w01.cell? ⟨g04, 1, none⟩ = some (.int .i64 0) := blk_cellv (HS.out.at5) 1 rfl; have hz01 : w01.frozen? ⟨g04, 1, none⟩ = false := blk_fz (HS.out.at5) 1; have hc02 : w01.cell? ⟨g04, 2, none⟩ = some (.int .i64 0) := blk_cellv (HS.out.at5) 2 rfl; have hz02 : w01.frozen? ⟨g04, 2, none⟩ = false := blk_fz (HS.out.at5) 2) | ((with_reducible refine gate_store (t := 134) (p := 9) rfl ?_); refine store_event (w1 := (World.setCell (World.setCell (World.setCell w01 ⟨g04, 0, none⟩ (.int .i64 t00.1)) ⟨g04, 1, none⟩ (.int .i64 t00.2.1)) ⟨g04, 2, none⟩ (.int .i64 t00.2.2.1))) rfl (t := 134) (p := 9) rfl rfl ?hr ?_; (case hr => first | (go_simp; done) | (go_simp; rfl)); intro w02 hst; clear hc00 hz00 hc01 hz01 hc02 hz02; replace HS : Aside0 (Sep FF w [b7 g00 g01 a01 a02 a03 a04, b6 g01 A00 l00.length n00 a00, r5 A00 l00.length n00 l00, b8 g02 g00, b9 g03 a07, b10 g04 t00.1 t00.2.1 t00.2.2.1] w02) := ⟨by rw [hst]; exact HS.out.setAll (l1 := [b7 g00 g01 a01 a02 a03 a04, b6 g01 A00 l00.length n00 a00, r5 A00 l00.length n00 l00, b8 g02 g00, b9 g03 a07]) (l2 := []) [.int .i64 t00.1, .int .i64 t00.2.1, .int .i64 t00.2.2.1] rfl⟩; clear hst; replace HS : Aside0 (Sep FF w [b7 g00 g01 a01 a02 a03 a04, b6 g01 A00 l00.length n00 a00, r5 A00 l00.length n00 l00, b8 g02 g00, b9 g03 a07] w02) := ⟨HS.out.sub (.cons_cons _ (.cons_cons _ (.cons_cons _ (.cons_cons _ (.cons_cons _ (.cons _ .slnil))))))⟩))
   go_ret
   rw [← some_eq H]
   exact ⟨(by first | rfl | (simp [IntKind.wrap_u32]; done)), HS.out⟩

set_option maxHeartbeats 30000000 in
set_option maxRecDepth 100000 in
theorem chain_Add.calls (l00 : List Int) (a00 : Int) (a01 : Int) (a02 : Int) (a03 : Int) (a04 : Int) (a05 : Int) (a06 : Int) (g00 : Nat) (g01 : Nat) (A00 : Option Addr) (m00 : Nat) (n00 : Nat) (r : Bool × Int × List Int) (w : World)   (HS : Aside0 (Sep (fps [b7 g00 g01 a01 a02 a03 a04, b6 g01 A00 m00 n00 a00, r5 A00 m00 n00 l00]) w [b7 g00 g01 a01 a02 a03 a04, b6 g01 A00 m00 n00 a00, r5 A00 m00 n00 l00] w)) (H : Aside0 (chain_Add.f l00 a00 a01 a02 a03 a04 a05 a06 = some r)) :
    Calls Try.prog 52 #[.pointer (some ⟨g00, 0, none⟩), .int .i64 a05, .int .i64 a06] w fun e w' => e = .returned (.bool r.1) ∧ Sep (fps [b7 g00 g01 a01 a02 a03 a04, b6 g01 A00 m00 n00 a00, r5 A00 m00 n00 l00]) w [b7 g00 g01 a01 a02 a03 a04, b6 g01 A00 m00 n00 r.2.1, r5 A00 m00 n00 r.2.2] w' := by
  generalize (fps [b7 g00 g01 a01 a02 a03 a04, b6 g01 A00 m00 n00 a00, r5 A00 m00 n00 l00]) = FF at HS ⊢
  obtain rfl := (row_len (HS.out.at2)).symm
  unfold chain_Add.f at H
  go_enter Try.func52, Try.ntmps52
  go_wp2_with (first | ((with_reducible refine gate_dst (N := 3) rfl ?_); refine box_on ?hg (N := 3) ?hd (cs := #[.pointer (some ⟨g00, 0, none⟩)]) (t := 50) ?hr ?_; (case hd => rfl); (case hg => rfl); (case hr => first | (go_simp; done) | (go_simp; rfl)); intro g02 hg w00 hbox hb; replace HS : Aside0 (Sep FF w [b7 g00 g01 a01 a02 a03 a04, b6 g01 A00 l00.length n00 a00, r5 A00 l00.length n00 l00, b8 g02 g00] w00) := ⟨HS.out.box hg hbox hb⟩; clear hg hbox hb) | ((with_reducible refine gate_dst (N := 5) rfl ?_); refine box_on ?hg (N := 5) ?hd (cs := #[.int .i64 a06]) (t := 3) ?hr ?_; (case hd => rfl); (case hg => rfl); (case hr => first | (go_simp; done) | (go_simp; rfl)); intro g03 hg w01 hbox hb; replace HS : Aside0 (Sep FF w [b7 g00 g01 a01 a02 a03 a04, b6 g01 A00 l00.length n00 a00, r5 A00 l00.length n00 l00, b8 g02 g00, b9 g03 a06] w01) := ⟨HS.out.box hg hbox hb⟩; clear hg hbox hb; have hc00 : w01.cell? ⟨g02, 0, none⟩ = some (.pointer (some ⟨g00, 0, none⟩)) := blk_cellv (HS.out.at3) 0 rfl; have hc01 : w01.cell? ⟨g03, 0, none⟩ = some (.int .i64 a06) := blk_cellv (HS.out.at4) 0 rfl))
  clear hc00 hc01
  obtain ⟨t00, HA00, H⟩ := bind_some H
  refine (chain_put_F89.calls l00 a00 a01 a02 a03 a04 a05 a06 a06 g00 g01 A00 l00.length n00 g02 g03 t00 _ ⟨HS.out.begin⟩ HA00).mono ?_
  rintro e_ w02 ⟨rfl, hS⟩
  replace HS : Aside0 (Sep FF w [b7 g00 g01 a01 a02 a03 a04, b6 g01 A00 l00.length n00 t00.2.1, r5 A00 l00.length n00 t00.2.2, b8 g02 g00, b9 g03 a06] w02) := ⟨HS.out.call hS⟩
  clear hS
  replace HS : Aside0 (Sep FF w [b7 g00 g01 a01 a02 a03 a04, b6 g01 A00 l00.length n00 t00.2.1, r5 A00 l00.length n00 t00.2.2] w02) := ⟨HS.out.sub (.cons_cons _ (.cons_cons _ (.cons_cons _ (.cons _ (.cons _ .slnil)))))⟩
  go_wp2_with fail
  go_ret
  rw [← some_eq H]
  exact ⟨(by first | rfl | (simp [IntKind.wrap_u32]; done)), HS.out⟩
end Go.Proofs.Ytobeonkddamnoaa.C

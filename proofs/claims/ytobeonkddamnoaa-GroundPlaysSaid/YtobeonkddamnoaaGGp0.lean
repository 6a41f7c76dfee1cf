/- Each function of the group Gp does what its plain function says, and changes nothing that was there; proved by walking its code. No condition. -/
import Derived.Test.YtobeonkddamnoaaQw
import Derived.Test.YtobeonkddamnoaaMGp
namespace Go.Proofs.Ytobeonkddamnoaa.C
open Go.RowKit Go.Proofs.YtobeonkddamnoaaW.PrintWords Go.Proofs.YtobeonkddamnoaaW.PrintLast Go.Proofs.Ytobeonkddamnoaa.Q Go.Proofs.Ytobeonkddamnoaa.M
set_option linter.unusedVariables false
set_option linter.unusedSimpArgs false
def b1 (g : Nat) (x0 : Int) (x1 : Int) (x2 : Int) (x3 : Int) : Ob := blk g #[.int .i64 x0, .int .i64 x1, .int .i64 x2, .int .i64 x3] 49
def b2 (g : Nat) (x0 : Int) (x1 : Int) (x2 : Int) (x3 : Int) (x4 : Int) (x5 : Int) (x6 : Int) (x7 : Int) : Ob := blk g #[.int .i64 x0, .int .i64 x1, .int .i64 x2, .int .i64 x3, .int .i64 x4, .int .i64 x5, .int .i64 x6, .int .i64 x7] 120
def b3 (g : Nat) (x0 : Int) (x1 : Int) : Ob := blk g #[.int .i64 x0, .int .i64 x1] 3
def b4 (g : Nat) (x0 : Int) (x1 : Int) (x2 : Int) : Ob := blk g #[.int .i64 x0, .int .i64 x1, .int .i64 x2] 3
def r5 (A : Option Addr) (n c : Nat) (l : List Int) : Ob := row 23 (Value.int .u32) (.slice A n c) l
def b6 (g : Nat) (x0 : Option Addr) (x1 : Nat) (x2 : Nat) (x3 : Int) : Ob := blk g #[.slice x0 x1 x2, .int .u64 x3] 115
def b7 (g : Nat) (x0 : Nat) (x1 : Int) (x2 : Int) (x3 : Int) (x4 : Int) : Ob := blk g #[.pointer (some ⟨x0, 0, none⟩), .int .i64 x1, .int .i64 x2, .int .i64 x3, .int .i64 x4] 126
def b8 (g : Nat) (x0 : Option Addr) (x1 : Nat) (x2 : Nat) (x3 : Int) : Ob := blk g #[.slice x0 x1 x2, .int .u64 x3] 44
def b9 (g : Nat) (x0 : Int) (x1 : Int) (x2 : Int) (x3 : Int) (x4 : Nat) : Ob := blk g #[.int .i64 x0, .int .i64 x1, .int .i64 x2, .int .i64 x3, .pointer (some ⟨x4, 0, none⟩)] 69
abbrev s10 : Kd (Int × Int × Int × Int) := (Kd.pair (Kd.int .u8) (Kd.pair (Kd.int .i64) (Kd.pair (Kd.int .i64) (Kd.int .i64))))
theorem s10_at {F : Nat → Prop} {w W : World} {A : Option Addr} {n : Nat} {xs : List (Int × Int × Int × Int)} (h : Rd s10 F w A n xs) (hf : Fr F w W) (i : Int) (h0 : 0 ≤ i) (h1 : i < n) : ∃ ad, A = some ad ∧ W.cell? (ad.add (i.toNat * 4)) = some (.int .u8 ((rdOf (0, 0, 0, 0) xs i).1)) ∧ W.cell? ⟨(ad.add (i.toNat * 4)).block, (ad.add (i.toNat * 4)).off + 1, none⟩ = some (.int .i64 ((rdOf (0, 0, 0, 0) xs i).2.1)) ∧ W.cell? ⟨(ad.add (i.toNat * 4)).block, (ad.add (i.toNat * 4)).off + 2, none⟩ = some (.int .i64 ((rdOf (0, 0, 0, 0) xs i).2.2.1)) ∧ W.cell? ⟨(ad.add (i.toNat * 4)).block, (ad.add (i.toNat * 4)).off + 3, none⟩ = some (.int .i64 ((rdOf (0, 0, 0, 0) xs i).2.2.2)) := by
  obtain ⟨ad, c, e, hl, hk, hc⟩ := Rd.el h hf (0, 0, 0, 0) i h0 h1
  obtain ⟨_, _, rfl, rfl, ⟨_, _, rfl, rfl, ⟨_, _, rfl, rfl, rfl⟩⟩⟩ := hk
  exact ⟨ad, e, hc 0 _ rfl, hc 1 _ rfl, hc 2 _ rfl, hc 3 _ rfl⟩
def b11 (g : Nat) (x0 : Int) (x1 : Int) (x2 : Int) (x3 : Int) : Ob := blk g #[.int .u8 x0, .int .i64 x1, .int .i64 x2, .int .i64 x3] 66

set_option maxHeartbeats 30000000 in
set_option maxRecDepth 100000 in
theorem ratio_Clamp.calls (a52 : Int) (a53 : Int) (a54 : Int) (r : Int) (w : World)   (HS : Aside0 (Sep (fps []) w [] w)) (H : Aside0 (ratio_Clamp.f a52 a53 a54 = some r)) :
    Calls Try.prog 123 #[.int .i64 a52, .int .i64 a53, .int .i64 a54] w fun e w' => e = .returned (.int .i64 r) ∧ Sep (fps []) w [] w' := by
  unfold ratio_Clamp.f at H
  go_enter Try.func123, Try.ntmps123
  by_cases c55 : a52 > a54
  · have H := if_yes c55 H
    have c55b0 : decide (a54 < a52) = true := decide_eq_true c55
    clear c55
    go_wp2_with fail
    go_ret
    rw [← some_eq H]
    exact ⟨(by first | rfl | (simp [IntKind.wrap_u32]; done)), HS.out⟩
  · have H := if_no c55 H
    have c55b0 : decide (a54 < a52) = false := decide_eq_false c55
    clear c55
    by_cases c56 : a52 < a53
    · have H := if_yes c56 H
      have c56b0 : decide (a52 < a53) = true := decide_eq_true c56
      skip
      go_wp2_with fail
      clear c56
      go_ret
      rw [← some_eq H]
      exact ⟨(by first | rfl | (simp [IntKind.wrap_u32]; done)), HS.out⟩
    · have H := if_no c56 H
      have c56b0 : decide (a52 < a53) = false := decide_eq_false c56
      skip
      go_wp2_with fail
      clear c56
      go_ret
      rw [← some_eq H]
      exact ⟨(by first | rfl | (simp [IntKind.wrap_u32]; done)), HS.out⟩

set_option maxHeartbeats 30000000 in
set_option maxRecDepth 100000 in
theorem plan_within.calls (a49 : Int) (a50 : Int) (a51 : Int) (r : Bool) (w : World)   (HS : Aside0 (Sep (fps []) w [] w)) (H : Aside0 (plan_within.f a49 a50 a51 = some r)) :
    Calls Try.prog 115 #[.int .i64 a49, .int .i64 a50, .int .i64 a51] w fun e w' => e = .returned (.bool r) ∧ Sep (fps []) w [] w' := by
  unfold plan_within.f at H
  go_enter Try.func115, Try.ntmps115
  go_wp2_with fail
  obtain ⟨t57, HA58, H⟩ := bind_some H
  refine (ratio_Clamp.calls a49 a50 a51 t57 _ ⟨Sep.start _⟩ HA58).mono ?_
  rintro e_ w59 ⟨rfl, hS⟩
  replace HS : Aside0 (Sep (fps []) w [] w59) := ⟨HS.out.call hS⟩
  clear hS
  go_wp2_with fail
  go_ret
  rw [← some_eq H]
  exact ⟨(by first | rfl | (simp [IntKind.wrap_u32]; done)), HS.out⟩

set_option maxHeartbeats 30000000 in
set_option maxRecDepth 100000 in
theorem plan_Check.calls (a41 : Int) (a42 : Int) (a43 : Int) (a44 : Int) (r : Int) (w : World)   (HS : Aside0 (Sep (fps []) w [] w)) (H : Aside0 (plan_Check.f a41 a42 a43 a44 = some r)) :
    Calls Try.prog 105 #[.agg #[.int .i64 a41, .int .i64 a42, .int .i64 a43, .int .i64 a44]] w fun e w' => e = .returned (.int .i64 r) ∧ Sep (fps []) w [] w' := by
  unfold plan_Check.f at H
  go_enter Try.func105, Try.ntmps105
  go_wp2_with (first | ((with_reducible refine gate_dst (N := 1) rfl ?_); refine box_on ?hg (N := 1) ?hd (cs := #[.int .i64 a41, .int .i64 a42, .int .i64 a43, .int .i64 a44]) (t := 49) ?hr ?_; (case hd => rfl); (case hg => rfl); (case hr => first | (go_simp; done) | (go_simp; rfl)); intro g45 hg w46 hbox hb; replace HS : Aside0 (Sep (fps []) w [b1 g45 a41 a42 a43 a44] w46) := ⟨HS.out.box hg hbox hb⟩; clear hg hbox hb; have hc48 : w46.cell? ⟨g45, 0, none⟩ = some (.int .i64 a41) := blk_cellv (HS.out.at0) 0 rfl))
  clear hc48
  obtain ⟨t60, HA61, H⟩ := bind_some H
  refine (plan_within.calls a41 1 1048576 t60 _ ⟨Sep.start _⟩ HA61).mono ?_
  rintro e_ w62 ⟨rfl, hS⟩
  replace HS : Aside0 (Sep (fps []) w [b1 g45 a41 a42 a43 a44] w62) := ⟨HS.out.call hS⟩
  clear hS
  by_cases c63 : t60 = true
  · have H := if_yes c63 H
    have c63b0 : t60 = true := c63
    have c63b1 : (!t60) = false := by rw [c63b0]; rfl
    clear c63
    have hc64 : w62.cell? ⟨g45, 1, none⟩ = some (.int .i64 a42) := blk_cellv (HS.out.at0) 1 rfl
    go_wp2_with fail
    clear hc64
    obtain ⟨t65, HA66, H⟩ := bind_some H
    refine (plan_within.calls a42 16 256 t65 _ ⟨Sep.start _⟩ HA66).mono ?_
    rintro e_ w67 ⟨rfl, hS⟩
    replace HS : Aside0 (Sep (fps []) w [b1 g45 a41 a42 a43 a44] w67) := ⟨HS.out.call hS⟩
    clear hS
    by_cases c68 : t65 = true
    · have H := if_yes c68 H
      have c68b0 : t65 = true := c68
      have c68b1 : (!t65) = false := by rw [c68b0]; rfl
      clear c68
      have hc69 : w67.cell? ⟨g45, 2, none⟩ = some (.int .i64 a43) := blk_cellv (HS.out.at0) 2 rfl
      go_wp2_with fail
      clear hc69
      obtain ⟨t70, HA71, H⟩ := bind_some H
      refine (plan_within.calls a43 1 4096 t70 _ ⟨Sep.start _⟩ HA71).mono ?_
      rintro e_ w72 ⟨rfl, hS⟩
      replace HS : Aside0 (Sep (fps []) w [b1 g45 a41 a42 a43 a44] w72) := ⟨HS.out.call hS⟩
      clear hS
      by_cases c73 : t70 = true
      · have H := if_yes c73 H
        have c73b0 : t70 = true := c73
        have c73b1 : (!t70) = false := by rw [c73b0]; rfl
        clear c73
        have hc74 : w72.cell? ⟨g45, 3, none⟩ = some (.int .i64 a44) := blk_cellv (HS.out.at0) 3 rfl
        go_wp2_with fail
        clear hc74
        obtain ⟨t75, HA76, H⟩ := bind_some H
        refine (plan_within.calls a44 1 65536 t75 _ ⟨Sep.start _⟩ HA76).mono ?_
        rintro e_ w77 ⟨rfl, hS⟩
        replace HS : Aside0 (Sep (fps []) w [b1 g45 a41 a42 a43 a44] w77) := ⟨HS.out.call hS⟩
        clear hS
        by_cases c78 : t75 = true
        · have H := if_yes c78 H
          have c78b0 : t75 = true := c78
          have c78b1 : (!t75) = false := by rw [c78b0]; rfl
          clear c78
          by_cases c81 : (wrap64 (a41 * a42)) ≤ 4194304
          · have H := if_yes c81 H
            have c81b0 : decide ((wrap64 (a41 * a42)) ≤ 4194304) = true := decide_eq_true c81
            clear c81
            have hc79 : w77.cell? ⟨g45, 0, none⟩ = some (.int .i64 a41) := blk_cellv (HS.out.at0) 0 rfl
            have hc80 : w77.cell? ⟨g45, 1, none⟩ = some (.int .i64 a42) := blk_cellv (HS.out.at0) 1 rfl
            replace HS : Aside0 (Sep (fps []) w [] w77) := ⟨HS.out.sub (.cons _ .slnil)⟩
            go_wp2_with fail
            clear hc79 hc80
            go_ret
            rw [← some_eq H]
            exact ⟨(by first | rfl | (simp [IntKind.wrap_u32]; done)), HS.out⟩
          · have H := if_no c81 H
            have c81b0 : decide ((wrap64 (a41 * a42)) ≤ 4194304) = false := decide_eq_false c81
            clear c81
            have hc79 : w77.cell? ⟨g45, 0, none⟩ = some (.int .i64 a41) := blk_cellv (HS.out.at0) 0 rfl
            have hc80 : w77.cell? ⟨g45, 1, none⟩ = some (.int .i64 a42) := blk_cellv (HS.out.at0) 1 rfl
            replace HS : Aside0 (Sep (fps []) w [] w77) := ⟨HS.out.sub (.cons _ .slnil)⟩
            go_wp2_with fail
            clear hc79 hc80
            go_ret
            rw [← some_eq H]
            exact ⟨(by first | rfl | (simp [IntKind.wrap_u32]; done)), HS.out⟩
        · have H := if_no c78 H
          have c78b0 : t75 = false := by simpa using c78
          have c78b1 : (!t75) = true := by rw [c78b0]; rfl
          clear c78
          replace HS : Aside0 (Sep (fps []) w [] w77) := ⟨HS.out.sub (.cons _ .slnil)⟩
          go_wp2_with fail
          go_ret
          rw [← some_eq H]
          exact ⟨(by first | rfl | (simp [IntKind.wrap_u32]; done)), HS.out⟩
      · have H := if_no c73 H
        have c73b0 : t70 = false := by simpa using c73
        have c73b1 : (!t70) = true := by rw [c73b0]; rfl
        clear c73
        replace HS : Aside0 (Sep (fps []) w [] w72) := ⟨HS.out.sub (.cons _ .slnil)⟩
        go_wp2_with fail
        go_ret
        rw [← some_eq H]
        exact ⟨(by first | rfl | (simp [IntKind.wrap_u32]; done)), HS.out⟩
    · have H := if_no c68 H
      have c68b0 : t65 = false := by simpa using c68
      have c68b1 : (!t65) = true := by rw [c68b0]; rfl
      clear c68
      replace HS : Aside0 (Sep (fps []) w [] w67) := ⟨HS.out.sub (.cons _ .slnil)⟩
      go_wp2_with fail
      go_ret
      rw [← some_eq H]
      exact ⟨(by first | rfl | (simp [IntKind.wrap_u32]; done)), HS.out⟩
  · have H := if_no c63 H
    have c63b0 : t60 = false := by simpa using c63
    have c63b1 : (!t60) = true := by rw [c63b0]; rfl
    clear c63
    replace HS : Aside0 (Sep (fps []) w [] w62) := ⟨HS.out.sub (.cons _ .slnil)⟩
    go_wp2_with fail
    go_ret
    rw [← some_eq H]
    exact ⟨(by first | rfl | (simp [IntKind.wrap_u32]; done)), HS.out⟩

set_option maxHeartbeats 30000000 in
set_option maxRecDepth 100000 in
theorem ratio_counts.calls (a114 : Int) (r : Int) (w : World)   (HS : Aside0 (Sep (fps []) w [] w)) (H : Aside0 (ratio_counts.f a114 = some r)) :
    Calls Try.prog 116 #[.int .i64 a114] w fun e w' => e = .returned (.int .i64 r) ∧ Sep (fps []) w [] w' := by
  unfold ratio_counts.f at H
  go_enter Try.func116, Try.ntmps116
  go_wp2_with fail
  obtain ⟨t115, HA116, H⟩ := bind_some H
  refine (ratio_Clamp.calls a114 0 1125899906842624 t115 _ ⟨Sep.start _⟩ HA116).mono ?_
  rintro e_ w117 ⟨rfl, hS⟩
  replace HS : Aside0 (Sep (fps []) w [] w117) := ⟨HS.out.call hS⟩
  clear hS
  go_wp2_with fail
  go_ret
  rw [← some_eq H]
  exact ⟨(by first | rfl | (simp [IntKind.wrap_u32]; done)), HS.out⟩

set_option maxHeartbeats 30000000 in
set_option maxRecDepth 100000 in
theorem ratio_zero.calls (a113 : Int) (r : Bool) (w : World)   (HS : Aside0 (Sep (fps []) w [] w)) (H : Aside0 (ratio_zero.f a113 = some r)) :
    Calls Try.prog 118 #[.int .i64 a113] w fun e w' => e = .returned (.bool r) ∧ Sep (fps []) w [] w' := by
  unfold ratio_zero.f at H
  go_enter Try.func118, Try.ntmps118
  go_wp2_with fail
  obtain ⟨t118, HA119, H⟩ := bind_some H
  refine (ratio_counts.calls a113 t118 _ ⟨Sep.start _⟩ HA119).mono ?_
  rintro e_ w120 ⟨rfl, hS⟩
  replace HS : Aside0 (Sep (fps []) w [] w120) := ⟨HS.out.call hS⟩
  clear hS
  go_wp2_with fail
  go_ret
  rw [← some_eq H]
  exact ⟨(by first | rfl | (simp [IntKind.wrap_u32]; done)), HS.out⟩

set_option maxHeartbeats 30000000 in
set_option maxRecDepth 100000 in
theorem slices_IndexFunc_int_int_F118.calls (k : Nat) (l99 : List Int) (A100 : Option Addr) (n101 : Nat) (r : Int) (w : World) (HR102 : Aside0 (Rd (Kd.int .i64) (fps []) w A100 l99.length l99))  (HS : Aside0 (Sep (fps []) w [] w)) (H : Aside0 (slices_IndexFunc_int_int_F118.f k l99 = some r)) :
    Calls Try.prog 124 #[.slice A100 l99.length n101, .func (.func 118) #[] #[]] w fun e w' => e = .returned (.int .i64 r) ∧ Sep (fps []) w [] w' := by
  unfold slices_IndexFunc_int_int_F118.f at H
  go_enter Try.func124, Try.ntmps124
  go_wp2_with fail
  obtain ⟨o125, AL126, H⟩ := bind_some H
  go_loopg [8] k (fun kq v8 wc => ∃ (x129 : Int), v8 = .int .i64 x129 ∧ Aside0 (slices_IndexFunc_int_int_F118.lo0 kq l99 x129 = some o125) ∧ Aside0 (Sep (fps []) w [] wc))
  case atStart => exact ⟨(0), (by first | rfl | (simp [IntKind.wrap_u32]; done)), AL126, ⟨HS.out⟩⟩
  case round =>
    clear AL126 HS
    obtain ⟨x129, rfl, AL126, HS⟩ := hrel
    obtain ⟨w127, rfl⟩ : ∃ x : World, x = wr := ⟨_, rfl⟩
    cases gk with
    | zero => exact absurd AL126.out (by simp [slices_IndexFunc_int_int_F118.lo0])
    | succ k128 =>
      have AL0 := AL126.out
      rw [slices_IndexFunc_int_int_F118.lo0] at AL0
      clear AL126
      have AL126 := Aside0.mk AL0
      clear AL0
      by_cases c130 : x129 < (l99.length : Int)
      · have AL126 := if_yes c130 AL126
        have c130b0 : decide (x129 < (l99.length : Int)) = true := decide_eq_true c130
        clear c130
        by_cases c131 : 0 ≤ x129
        · have AL126 := if_yes c131 AL126
          have c131b0 : decide (0 ≤ x129) = true := decide_eq_true c131
          have c131p : (0 ≤ x129) = True := eq_true c131
          clear c131
          have ip132 : (x129 < (l99.length : Int)) = True := eq_true (of_decide_eq_true c130b0)
          obtain ⟨hx133a, hx133e, hx133⟩ := Kd.at_int (Rd.read (fun _ _ _ _ h => h) HR102.out HS.out.fr) x129 (of_decide_eq_true c131b0) (of_decide_eq_true c130b0); cases hx133e
          go_wp2_with fail
          clear hx133
          obtain ⟨t121, HA134, AL126⟩ := bind_some AL126
          refine (ratio_zero.calls (rd l99 x129) t121 _ ⟨Sep.start _⟩ HA134).mono ?_
          rintro e_ w135 ⟨rfl, hS⟩
          replace HS : Aside0 (Sep (fps []) w [] w135) := ⟨HS.out.call hS⟩
          clear hS
          by_cases c136 : t121 = true
          · have AL126 := if_yes c136 AL126
            have c136b0 : t121 = true := c136
            have c136b1 : (!t121) = false := by rw [c136b0]; rfl
            clear c136
            go_wp2_with fail
            have ho := some_eq AL126
            subst ho
            have H := lp_ret H
            go_ret
            rw [← some_eq H]
            exact ⟨(by first | rfl | (simp [IntKind.wrap_u32]; done)), HS.out⟩
          · have AL126 := if_no c136 AL126
            have c136b0 : t121 = false := by simpa using c136
            have c136b1 : (!t121) = true := by rw [c136b0]; rfl
            clear c136
            go_wp2_with fail
            go_roundg k128
            case measure => exact Nat.lt_succ_self _
            case rel => exact ⟨(wrap64 (x129 + 1)), (by first | rfl | (simp [IntKind.wrap_u32]; done)), Aside0.mk AL126.out, ⟨HS.out⟩⟩
        · have AL126 := if_no c131 AL126
          have c131b0 : decide (0 ≤ x129) = false := decide_eq_false c131
          clear c131
          exact (none_no AL126).elim
      · have AL126 := if_no c130 AL126
        have c130b0 : decide (x129 < (l99.length : Int)) = false := decide_eq_false c130
        clear c130
        have ho := some_eq AL126
        subst ho
        clear AL126
        have H := lp_out H
        go_wp2_with fail
        go_ret
        rw [← some_eq H]
        exact ⟨(by first | rfl | (simp [IntKind.wrap_u32]; done)), HS.out⟩

set_option maxHeartbeats 30000000 in
set_option maxRecDepth 100000 in
theorem slices_ContainsFunc_int_int_F118.calls (k : Nat) (l95 : List Int) (A96 : Option Addr) (n97 : Nat) (r : Bool) (w : World) (HR98 : Aside0 (Rd (Kd.int .i64) (fps []) w A96 l95.length l95))  (HS : Aside0 (Sep (fps []) w [] w)) (H : Aside0 (slices_ContainsFunc_int_int_F118.f k l95 = some r)) :
    Calls Try.prog 117 #[.slice A96 l95.length n97, .func (.func 118) #[] #[]] w fun e w' => e = .returned (.bool r) ∧ Sep (fps []) w [] w' := by
  unfold slices_ContainsFunc_int_int_F118.f at H
  go_enter Try.func117, Try.ntmps117
  go_wp2_with fail
  obtain ⟨t138, HA139, H⟩ := bind_some H
  refine (slices_IndexFunc_int_int_F118.calls _ l95 A96 n97 t138 _ ⟨Rd.pass (l := []) (by decide) (fun _ _ _ _ h => h) HR98.out HS.out⟩ ⟨Sep.start _⟩ HA139).mono ?_
  rintro e_ w140 ⟨rfl, hS⟩
  replace HS : Aside0 (Sep (fps []) w [] w140) := ⟨HS.out.call hS⟩
  clear hS
  go_wp2_with fail
  go_ret
  rw [← some_eq H]
  exact ⟨(by first | rfl | (simp [IntKind.wrap_u32]; done)), HS.out⟩

set_option maxHeartbeats 30000000 in
set_option maxRecDepth 100000 in
theorem ratio_Mul.calls (k : Nat) (l91 : List Int) (A92 : Option Addr) (n93 : Nat) (r : Int) (w : World) (HR94 : Aside0 (Rd (Kd.int .i64) (fps []) w A92 l91.length l91))  (HS : Aside0 (Sep (fps []) w [] w)) (H : Aside0 (ratio_Mul.f k l91 = some r)) :
    Calls Try.prog 107 #[.slice A92 l91.length n93] w fun e w' => e = .returned (.int .i64 r) ∧ Sep (fps []) w [] w' := by
  unfold ratio_Mul.f at H
  go_enter Try.func107, Try.ntmps107
  go_wp2_with fail
  obtain ⟨t141, HA142, H⟩ := bind_some H
  refine (slices_ContainsFunc_int_int_F118.calls _ l91 A92 n93 t141 _ ⟨Rd.pass (l := []) (by decide) (fun _ _ _ _ h => h) HR94.out HS.out⟩ ⟨Sep.start _⟩ HA142).mono ?_
  rintro e_ w143 ⟨rfl, hS⟩
  replace HS : Aside0 (Sep (fps []) w [] w143) := ⟨HS.out.call hS⟩
  clear hS
  by_cases c144 : t141 = true
  · have H := if_yes c144 H
    have c144b0 : t141 = true := c144
    have c144b1 : (!t141) = false := by rw [c144b0]; rfl
    clear c144
    go_wp2_with fail
    go_ret
    rw [← some_eq H]
    exact ⟨(by first | rfl | (simp [IntKind.wrap_u32]; done)), HS.out⟩
  · have H := if_no c144 H
    have c144b0 : t141 = false := by simpa using c144
    have c144b1 : (!t141) = true := by rw [c144b0]; rfl
    clear c144
    go_wp2_with fail
    obtain ⟨o146, AL147, H⟩ := bind_some H
    go_loopg [3, 11] k (fun kq v3 v11 wc => ∃ (x150 : Int) (x151 : Int), v3 = .int .i64 x150 ∧ v11 = .int .i64 x151 ∧ Aside0 (ratio_Mul.lo0 kq l91 x150 x151 = some o146) ∧ Aside0 (Sep (fps []) w [] wc))
    case atStart => exact ⟨(1), (0), (by first | rfl | (simp [IntKind.wrap_u32]; done)), (by first | rfl | (simp [IntKind.wrap_u32]; done)), AL147, ⟨HS.out⟩⟩
    case round =>
      clear AL147 HS
      obtain ⟨x150, x151, rfl, rfl, AL147, HS⟩ := hrel
      obtain ⟨w148, rfl⟩ : ∃ x : World, x = wr := ⟨_, rfl⟩
      cases gk with
      | zero => exact absurd AL147.out (by simp [ratio_Mul.lo0])
      | succ k149 =>
        have AL0 := AL147.out
        rw [ratio_Mul.lo0] at AL0
        clear AL147
        have AL147 := Aside0.mk AL0
        clear AL0
        by_cases c152 : x151 < (l91.length : Int)
        · have AL147 := if_yes c152 AL147
          have c152b0 : decide (x151 < (l91.length : Int)) = true := decide_eq_true c152
          clear c152
          by_cases c153 : 0 ≤ x151
          · have AL147 := if_yes c153 AL147
            have c153b0 : decide (0 ≤ x151) = true := decide_eq_true c153
            have c153p : (0 ≤ x151) = True := eq_true c153
            clear c153
            have ip154 : (x151 < (l91.length : Int)) = True := eq_true (of_decide_eq_true c152b0)
            obtain ⟨hx155a, hx155e, hx155⟩ := Kd.at_int (Rd.read (fun _ _ _ _ h => h) HR94.out HS.out.fr) x151 (of_decide_eq_true c153b0) (of_decide_eq_true c152b0); cases hx155e
            go_wp2_with fail
            clear hx155
            obtain ⟨t156, HA157, AL147⟩ := bind_some AL147
            refine (ratio_counts.calls (rd l91 x151) t156 _ ⟨Sep.start _⟩ HA157).mono ?_
            rintro e_ w158 ⟨rfl, hS⟩
            replace HS : Aside0 (Sep (fps []) w [] w158) := ⟨HS.out.call hS⟩
            clear hS
            by_cases c159 : t156 = 0
            · have AL147 := if_yes c159 AL147
              have c159b0 : (t156 == 0) = true := beq_iff_eq.mpr c159
              have c159b1 : (t156 != 0) = false := bne_eq_false_iff_eq.mpr c159
              exact (none_no AL147).elim
            · have AL147 := if_no c159 AL147
              have c159b0 : (t156 == 0) = false := beq_eq_false_iff_ne.mpr c159
              have c159b1 : (t156 != 0) = true := bne_iff_ne.mpr c159
              by_cases c160 : x150 ≤ (wrap64 (Int.tdiv (1125899906842624 : Int) t156))
              · have AL147 := if_yes c160 AL147
                have c160b0 : decide (x150 ≤ (wrap64 (Int.tdiv (1125899906842624 : Int) t156))) = true := decide_eq_true c160
                clear c160
                skip
                go_wp2_with fail
                clear c159
                go_roundg k149
                case measure => exact Nat.lt_succ_self _
                case rel => exact ⟨(wrap64 (x150 * t156)), (wrap64 (x151 + 1)), (by first | rfl | (simp [IntKind.wrap_u32]; done)), (by first | rfl | (simp [IntKind.wrap_u32]; done)), Aside0.mk AL147.out, ⟨HS.out⟩⟩
              · have AL147 := if_no c160 AL147
                have c160b0 : decide (x150 ≤ (wrap64 (Int.tdiv (1125899906842624 : Int) t156))) = false := decide_eq_false c160
                clear c160
                skip
                go_wp2_with fail
                clear c159
                go_roundg k149
                case measure => exact Nat.lt_succ_self _
                case rel => exact ⟨(1125899906842624), (wrap64 (x151 + 1)), (by first | rfl | (simp [IntKind.wrap_u32]; done)), (by first | rfl | (simp [IntKind.wrap_u32]; done)), Aside0.mk AL147.out, ⟨HS.out⟩⟩
          · have AL147 := if_no c153 AL147
            have c153b0 : decide (0 ≤ x151) = false := decide_eq_false c153
            clear c153
            exact (none_no AL147).elim
        · have AL147 := if_no c152 AL147
          have c152b0 : decide (x151 < (l91.length : Int)) = false := decide_eq_false c152
          clear c152
          have ho := some_eq AL147
          subst ho
          clear AL147
          go_wp2_with fail
          go_ret
          rw [← some_eq H]
          exact ⟨(by first | rfl | (simp [IntKind.wrap_u32]; done)), HS.out⟩

set_option maxHeartbeats 30000000 in
set_option maxRecDepth 100000 in
theorem ratio_Add.calls (k : Nat) (l168 : List Int) (A169 : Option Addr) (n170 : Nat) (r : Int) (w : World) (HR171 : Aside0 (Rd (Kd.int .i64) (fps []) w A169 l168.length l168))  (HS : Aside0 (Sep (fps []) w [] w)) (H : Aside0 (ratio_Add.f k l168 = some r)) :
    Calls Try.prog 106 #[.slice A169 l168.length n170] w fun e w' => e = .returned (.int .i64 r) ∧ Sep (fps []) w [] w' := by
  unfold ratio_Add.f at H
  go_enter Try.func106, Try.ntmps106
  go_wp2_with fail
  obtain ⟨o173, AL174, H⟩ := bind_some H
  go_loopg [3, 8] k (fun kq v3 v8 wc => ∃ (x177 : Int) (x178 : Int), v3 = .int .i64 x177 ∧ v8 = .int .i64 x178 ∧ Aside0 (ratio_Add.lo0 kq l168 x177 x178 = some o173) ∧ Aside0 (Sep (fps []) w [] wc))
  case atStart => exact ⟨(0), (0), (by first | rfl | (simp [IntKind.wrap_u32]; done)), (by first | rfl | (simp [IntKind.wrap_u32]; done)), AL174, ⟨HS.out⟩⟩
  case round =>
    clear AL174 HS
    obtain ⟨x177, x178, rfl, rfl, AL174, HS⟩ := hrel
    obtain ⟨w175, rfl⟩ : ∃ x : World, x = wr := ⟨_, rfl⟩
    cases gk with
    | zero => exact absurd AL174.out (by simp [ratio_Add.lo0])
    | succ k176 =>
      have AL0 := AL174.out
      rw [ratio_Add.lo0] at AL0
      clear AL174
      have AL174 := Aside0.mk AL0
      clear AL0
      by_cases c179 : x178 < (l168.length : Int)
      · have AL174 := if_yes c179 AL174
        have c179b0 : decide (x178 < (l168.length : Int)) = true := decide_eq_true c179
        clear c179
        by_cases c180 : 0 ≤ x178
        · have AL174 := if_yes c180 AL174
          have c180b0 : decide (0 ≤ x178) = true := decide_eq_true c180
          have c180p : (0 ≤ x178) = True := eq_true c180
          clear c180
          have ip181 : (x178 < (l168.length : Int)) = True := eq_true (of_decide_eq_true c179b0)
          obtain ⟨hx182a, hx182e, hx182⟩ := Kd.at_int (Rd.read (fun _ _ _ _ h => h) HR171.out HS.out.fr) x178 (of_decide_eq_true c180b0) (of_decide_eq_true c179b0); cases hx182e
          go_wp2_with fail
          clear hx182
          obtain ⟨t183, HA184, AL174⟩ := bind_some AL174
          refine (ratio_counts.calls (rd l168 x178) t183 _ ⟨Sep.start _⟩ HA184).mono ?_
          rintro e_ w185 ⟨rfl, hS⟩
          replace HS : Aside0 (Sep (fps []) w [] w185) := ⟨HS.out.call hS⟩
          clear hS
          by_cases c186 : 1125899906842624 < (wrap64 (x177 + t183))
          · have AL174 := if_yes c186 AL174
            have c186b0 : decide (1125899906842624 < (wrap64 (x177 + t183))) = true := decide_eq_true c186
            skip
            go_wp2_with fail
            clear c186
            go_roundg k176
            case measure => exact Nat.lt_succ_self _
            case rel => exact ⟨(1125899906842624), (wrap64 (x178 + 1)), (by first | rfl | (simp [IntKind.wrap_u32]; done)), (by first | rfl | (simp [IntKind.wrap_u32]; done)), Aside0.mk AL174.out, ⟨HS.out⟩⟩
          · have AL174 := if_no c186 AL174
            have c186b0 : decide (1125899906842624 < (wrap64 (x177 + t183))) = false := decide_eq_false c186
            skip
            go_wp2_with fail
            clear c186
            go_roundg k176
            case measure => exact Nat.lt_succ_self _
            case rel => exact ⟨(wrap64 (x177 + t183)), (wrap64 (x178 + 1)), (by first | rfl | (simp [IntKind.wrap_u32]; done)), (by first | rfl | (simp [IntKind.wrap_u32]; done)), Aside0.mk AL174.out, ⟨HS.out⟩⟩
        · have AL174 := if_no c180 AL174
          have c180b0 : decide (0 ≤ x178) = false := decide_eq_false c180
          clear c180
          exact (none_no AL174).elim
      · have AL174 := if_no c179 AL174
        have c179b0 : decide (x178 < (l168.length : Int)) = false := decide_eq_false c179
        clear c179
        have ho := some_eq AL174
        subst ho
        clear AL174
        go_wp2_with fail
        go_ret
        rw [← some_eq H]
        exact ⟨(by first | rfl | (simp [IntKind.wrap_u32]; done)), HS.out⟩

set_option maxHeartbeats 30000000 in
set_option maxRecDepth 100000 in
theorem ratio_by.calls (a397 : Int) (r : Int) (w : World)   (HS : Aside0 (Sep (fps []) w [] w)) (H : Aside0 (ratio_by.f a397 = some r)) :
    Calls Try.prog 119 #[.int .i64 a397] w fun e w' => e = .returned (.int .i64 r) ∧ Sep (fps []) w [] w' := by
  unfold ratio_by.f at H
  go_enter Try.func119, Try.ntmps119
  go_wp2_with fail
  obtain ⟨t398, HA399, H⟩ := bind_some H
  refine (ratio_counts.calls a397 t398 _ ⟨Sep.start _⟩ HA399).mono ?_
  rintro e_ w400 ⟨rfl, hS⟩
  replace HS : Aside0 (Sep (fps []) w [] w400) := ⟨HS.out.call hS⟩
  clear hS
  by_cases c401 : t398 < 1
  · have H := if_yes c401 H
    have c401b0 : decide (t398 < 1) = true := decide_eq_true c401
    skip
    go_wp2_with fail
    clear c401
    go_ret
    rw [← some_eq H]
    exact ⟨(by first | rfl | (simp [IntKind.wrap_u32]; done)), HS.out⟩
  · have H := if_no c401 H
    have c401b0 : decide (t398 < 1) = false := decide_eq_false c401
    skip
    go_wp2_with fail
    clear c401
    go_ret
    rw [← some_eq H]
    exact ⟨(by first | rfl | (simp [IntKind.wrap_u32]; done)), HS.out⟩

set_option maxHeartbeats 30000000 in
set_option maxRecDepth 100000 in
theorem ratio_Up.calls (a392 : Int) (a393 : Int) (r : Int) (w : World)   (HS : Aside0 (Sep (fps []) w [] w)) (H : Aside0 (ratio_Up.f a392 a393 = some r)) :
    Calls Try.prog 108 #[.int .i64 a392, .int .i64 a393] w fun e w' => e = .returned (.int .i64 r) ∧ Sep (fps []) w [] w' := by
  unfold ratio_Up.f at H
  go_enter Try.func108, Try.ntmps108
  go_wp2_with fail
  obtain ⟨t394, HA395, H⟩ := bind_some H
  refine (ratio_counts.calls a392 t394 _ ⟨Sep.start _⟩ HA395).mono ?_
  rintro e_ w396 ⟨rfl, hS⟩
  replace HS : Aside0 (Sep (fps []) w [] w396) := ⟨HS.out.call hS⟩
  clear hS
  go_wp2_with fail
  obtain ⟨t402, HA403, H⟩ := bind_some H
  refine (ratio_by.calls a393 t402 _ ⟨Sep.start _⟩ HA403).mono ?_
  rintro e_ w404 ⟨rfl, hS⟩
  replace HS : Aside0 (Sep (fps []) w [] w404) := ⟨HS.out.call hS⟩
  clear hS
  go_wp2_with fail
  obtain ⟨t405, HA406, H⟩ := bind_some H
  refine (ratio_by.calls a393 t405 _ ⟨Sep.start _⟩ HA406).mono ?_
  rintro e_ w407 ⟨rfl, hS⟩
  replace HS : Aside0 (Sep (fps []) w [] w407) := ⟨HS.out.call hS⟩
  clear hS
  by_cases c408 : t405 = 0
  · have H := if_yes c408 H
    have c408b0 : (t405 == 0) = true := beq_iff_eq.mpr c408
    have c408b1 : (t405 != 0) = false := bne_eq_false_iff_eq.mpr c408
    exact (none_no H).elim
  · have H := if_no c408 H
    have c408b0 : (t405 == 0) = false := beq_eq_false_iff_ne.mpr c408
    have c408b1 : (t405 != 0) = true := bne_iff_ne.mpr c408
    skip
    go_wp2_with fail
    clear c408
    go_ret
    rw [← some_eq H]
    exact ⟨(by first | rfl | (simp [IntKind.wrap_u32]; done)), HS.out⟩

set_option maxHeartbeats 30000000 in
set_option maxRecDepth 100000 in
theorem plan_Of.calls (k : Nat) (a27 : Int) (a28 : Int) (a29 : Int) (a30 : Int) (r : Int × Int × Int × Int × Int × Int × Int × Int × Int) (w : World)   (HS : Aside0 (Sep (fps []) w [] w)) (H : Aside0 (plan_Of.f k a27 a28 a29 a30 = some r)) :
    Calls Try.prog 76 #[.agg #[.int .i64 a27, .int .i64 a28, .int .i64 a29, .int .i64 a30]] w fun e w' => e = .returned (.tuple #[.agg #[.int .i64 r.1, .int .i64 r.2.1, .int .i64 r.2.2.1, .int .i64 r.2.2.2.1, .int .i64 r.2.2.2.2.1, .int .i64 r.2.2.2.2.2.1, .int .i64 r.2.2.2.2.2.2.1, .int .i64 r.2.2.2.2.2.2.2.1], .int .i64 r.2.2.2.2.2.2.2.2]) ∧ Sep (fps []) w [] w' := by
  unfold plan_Of.f at H
  go_enter Try.func76, Try.ntmps76
  go_wp2_with (first | ((with_reducible refine gate_dst (N := 1) rfl ?_); refine box_on ?hg (N := 1) ?hd (cs := #[.int .i64 a27, .int .i64 a28, .int .i64 a29, .int .i64 a30]) (t := 49) ?hr ?_; (case hd => rfl); (case hg => rfl); (case hr => first | (go_simp; done) | (go_simp; rfl)); intro g31 hg w32 hbox hb; replace HS : Aside0 (Sep (fps []) w [b1 g31 a27 a28 a29 a30] w32) := ⟨HS.out.box hg hbox hb⟩; clear hg hbox hb) | ((with_reducible refine gate_dst (N := 2) rfl ?_); refine box_on ?hg (N := 2) ?hd (cs := #[.int .i64 0, .int .i64 0, .int .i64 0, .int .i64 0, .int .i64 0, .int .i64 0, .int .i64 0, .int .i64 0]) (t := 120) ?hr ?_; (case hd => rfl); (case hg => rfl); (case hr => first | (go_simp; done) | (go_simp; rfl)); intro g34 hg w35 hbox hb; replace HS : Aside0 (Sep (fps []) w [b1 g31 a27 a28 a29 a30, b2 g34 0 0 0 0 0 0 0 0] w35) := ⟨HS.out.box hg hbox hb⟩; clear hg hbox hb; have hc37 : w35.cell? ⟨g31, 0, none⟩ = some (.int .i64 a27) := blk_cellv (HS.out.at0) 0 rfl; have hc38 : w35.cell? ⟨g31, 1, none⟩ = some (.int .i64 a28) := blk_cellv (HS.out.at0) 1 rfl; have hc39 : w35.cell? ⟨g31, 2, none⟩ = some (.int .i64 a29) := blk_cellv (HS.out.at0) 2 rfl; have hc40 : w35.cell? ⟨g31, 3, none⟩ = some (.int .i64 a30) := blk_cellv (HS.out.at0) 3 rfl))
  clear hc37 hc38 hc39 hc40
  obtain ⟨t82, HA83, H⟩ := bind_some H
  refine (plan_Check.calls a27 a28 a29 a30 t82 _ ⟨Sep.start _⟩ HA83).mono ?_
  rintro e_ w84 ⟨rfl, hS⟩
  replace HS : Aside0 (Sep (fps []) w [b1 g31 a27 a28 a29 a30, b2 g34 0 0 0 0 0 0 0 0] w84) := ⟨HS.out.call hS⟩
  clear hS
  by_cases c85 : t82 = 0
  · have H := if_yes c85 H
    have c85b0 : (t82 == 0) = true := beq_iff_eq.mpr c85
    have c85b1 : (t82 != 0) = false := bne_eq_false_iff_eq.mpr c85
    clear c85
    go_wp2_with fail
    obtain ⟨t162, HA163, H⟩ := bind_some H
    obtain ⟨t188, HA189, H⟩ := bind_some H
    go_cut [5] (fun v5 wc => ∃ (g88 : Nat) (g165 : Nat) (g191 : Nat), v5 = .pointer (some ⟨g191, 0, none⟩) ∧ Aside0 (Sep (fps []) w [b1 g31 a27 a28 a29 a30, b2 g34 0 0 0 0 0 0 0 0, b3 g88 a27 a28, b4 g165 24 a29 t162, b2 g191 t188 (wrap64 (a28 - 8)) 0 0 0 0 0 0] wc))
    case first =>
      go_wp2_with fail
      refine start_ (n := 16) (S := (fun w' => w'.cell? ⟨g31, 2, none⟩ = some (.int .i64 a29) ∧ w'.cell? ⟨g31, 0, none⟩ = some (.int .i64 a27) ∧ w'.cell? ⟨g31, 1, none⟩ = some (.int .i64 a28))) (ds := []) #[false, false, false, false, false, false, false, false, false, false, false, false, false, false, false, false] (by kernel_rfl) rfl rfl (⟨blk_cellv ((HS.out.drew).at0) 2 rfl, blk_cellv ((HS.out.drew).at0) 0 rfl, blk_cellv ((HS.out.drew).at0) 1 rfl⟩) (fun hHeld => ?_)
      have HS_ := Aside0.mk HS.out.drew
      clear HS
      generalize World.drew _ = w213 at HS_ hHeld ⊢
      have HS := HS_
      clear HS_
      refine pure_ (i := 0) (N := some 12) (v := ?_) (a' := ?_) #[true, false, false, false, false, false, false, false, false, false, false, false, false, false, false, false] rfl rfl (by kernel_rfl) (fun _ _ _ h => h) (Or.inl ⟨by rfl, ?_⟩) ?_ ?_
      rotate_left
      · intro w'
        go_simp
        with_reducible rfl
      rotate_left
      · simp only [Act.put, List.setIfInBounds_toArray, List.set_cons_zero, List.set_cons_succ, i64_w, i32_w]
        rfl
      refine pure_ (i := 2) (N := some 14) (v := ?_) (a' := ?_) #[true, false, true, false, false, false, false, false, false, false, false, false, false, false, false, false] rfl rfl (by kernel_rfl) (fun _ _ _ h => h) (Or.inl ⟨by rfl, ?_⟩) ?_ ?_
      rotate_left
      · intro w'
        go_simp
        with_reducible rfl
      rotate_left
      · simp only [Act.put, List.setIfInBounds_toArray, List.set_cons_zero, List.set_cons_succ, i64_w, i32_w]
        rfl
      refine pure_ (i := 4) (N := some 16) (v := ?_) (a' := ?_) #[true, false, true, false, true, false, false, false, false, false, false, false, false, false, false, false] rfl rfl (by kernel_rfl) (fun _ _ _ h => h) (Or.inl ⟨by rfl, ?_⟩) ?_ ?_
      rotate_left
      · intro w'
        go_simp
        with_reducible rfl
      rotate_left
      · simp only [Act.put, List.setIfInBounds_toArray, List.set_cons_zero, List.set_cons_succ, i64_w, i32_w]
        rfl
      refine pure_ (i := 10) (N := some 22) (v := ?_) (a' := ?_) #[true, false, true, false, true, false, false, false, false, false, true, false, false, false, false, false] rfl rfl (by kernel_rfl) (fun _ _ _ h => h) (Or.inl ⟨by rfl, ?_⟩) ?_ ?_
      rotate_left
      · intro w'
        go_simp
        with_reducible rfl
      rotate_left
      · simp only [Act.put, List.setIfInBounds_toArray, List.set_cons_zero, List.set_cons_succ, i64_w, i32_w]
        rfl
      refine take_ (i := 1) (N := some 13) (v := ?_) (a' := ?_) #[true, true, true, false, true, false, false, false, false, false, true, false, false, false, false, false] rfl rfl (by kernel_rfl) (fun _ _ _ h => h) (Or.inl ⟨by rfl, ?_⟩) hHeld ?_ ?_
      rotate_left
      · rintro w' hS'
        obtain ⟨s0, s1, s2⟩ := hS'
        go_simp
        with_reducible rfl
      rotate_left
      · simp only [Act.put, List.setIfInBounds_toArray, List.set_cons_zero, List.set_cons_succ, i64_w, i32_w]
        rfl
      refine take_ (i := 3) (N := some 15) (v := ?_) (a' := ?_) #[true, true, true, true, true, false, false, false, false, false, true, false, false, false, false, false] rfl rfl (by kernel_rfl) (fun _ _ _ h => h) (Or.inl ⟨by rfl, ?_⟩) hHeld ?_ ?_
      rotate_left
      · rintro w' hS'
        obtain ⟨s0, s1, s2⟩ := hS'
        go_simp
        with_reducible rfl
      rotate_left
      · simp only [Act.put, List.setIfInBounds_toArray, List.set_cons_zero, List.set_cons_succ, i64_w, i32_w]
        rfl
      refine take_ (i := 5) (N := some 17) (v := ?_) (a' := ?_) #[true, true, true, true, true, true, false, false, false, false, true, false, false, false, false, false] rfl rfl (by kernel_rfl) (fun _ _ _ h => h) (Or.inl ⟨by rfl, ?_⟩) hHeld ?_ ?_
      rotate_left
      · rintro w' hS'
        obtain ⟨s0, s1, s2⟩ := hS'
        go_simp
        with_reducible rfl
      rotate_left
      · simp only [Act.put, List.setIfInBounds_toArray, List.set_cons_zero, List.set_cons_succ, i64_w, i32_w]
        rfl
      refine take_ (i := 11) (N := some 23) (v := ?_) (a' := ?_) #[true, true, true, true, true, true, false, false, false, false, true, true, false, false, false, false] rfl rfl (by kernel_rfl) (fun _ _ _ h => h) (Or.inl ⟨by rfl, ?_⟩) hHeld ?_ ?_
      rotate_left
      · rintro w' hS'
        obtain ⟨s0, s1, s2⟩ := hS'
        go_simp
        with_reducible rfl
      rotate_left
      · simp only [Act.put, List.setIfInBounds_toArray, List.set_cons_zero, List.set_cons_succ, i64_w, i32_w]
        rfl
      refine pure_ (i := 12) (N := some 24) (v := ?_) (a' := ?_) #[true, true, true, true, true, true, false, false, false, false, true, true, true, false, false, false] rfl rfl (by kernel_rfl) (fun _ _ _ h => h) (Or.inl ⟨by rfl, ?_⟩) ?_ ?_
      rotate_left
      · intro w'
        go_simp
        with_reducible rfl
      rotate_left
      · simp only [Act.put, List.setIfInBounds_toArray, List.set_cons_zero, List.set_cons_succ, i64_w, i32_w]
        rfl
      refine two_ (i := 6) (j := 14) (Ni := some 18) (Nj := some 5) #[true, true, true, true, true, true, true, false, false, false, true, true, true, false, false, false] #[true, true, true, true, true, true, false, false, false, false, true, true, true, false, true, false] rfl rfl rfl rfl (by kernel_rfl) (by decide) (by decide) (fun K hK => ?_) (fun K hK => ?_)
      · refine slice_step (n := 2) (by rfl) (N := 18) rfl (cs := #[.int .i64 a27, .int .i64 a28]) (t := 3) ?hr ?_
        case hr => first | (go_simp; done) | (go_simp; rfl)
        intro g214 hg w215 hbox hb
        replace HS : Aside0 (Sep (fps []) w [b1 g31 a27 a28 a29 a30, b2 g34 0 0 0 0 0 0 0 0, b3 g214 a27 a28] w215) := ⟨HS.out.box hg hbox hb⟩
        clear hg hbox hb
        refine hK.out _ _ (⟨blk_cellv (HS.out.at0) 2 rfl, blk_cellv (HS.out.at0) 0 rfl, blk_cellv (HS.out.at0) 1 rfl⟩) (fun hHeld => ?_)
        clear hK K
        refine norm_ (a' := ?_) ?_ ?_
        rotate_left
        · show Act.put _ (some 18) _ = _
          simp only [Act.put, List.setIfInBounds_toArray, List.set_cons_zero, List.set_cons_succ, i64_w, i32_w]
          rfl
        refine two_ (i := 7) (j := 14) (Ni := some 19) (Nj := some 5) #[true, true, true, true, true, true, true, true, false, false, true, true, true, false, false, false] #[true, true, true, true, true, true, true, false, false, false, true, true, true, false, true, false] rfl rfl rfl rfl (by kernel_rfl) (by decide) (by decide) (fun K hK => ?_) (fun K hK => ?_)
        · refine goes_ Try.func107 (by kernel_rfl) rfl #[.slice (some ⟨g214, 0, none⟩) 2 2] (by rfl) rfl rfl (by (try simp only [List.map_toArray, List.map_cons, List.map_nil]); first | done | rfl) ?_
          refine (ratio_Mul.calls _ [a27, a28] (some ⟨g214, 0, none⟩) 2 t162 _ ⟨Rd.lit (l := []) (xs := [a27, a28]) HS.out 2 rfl (by simp)⟩ ⟨Sep.start _⟩ HA163).mono ?_
          rintro e_ w218 ⟨rfl, hS⟩
          replace HS : Aside0 (Sep (fps []) w [b1 g31 a27 a28 a29 a30, b2 g34 0 0 0 0 0 0 0 0, b3 g214 a27 a28] w218) := ⟨HS.out.call hS⟩
          clear hS
          refine ⟨_, rfl, ?_⟩
          refine hK.out _ _ (⟨blk_cellv (HS.out.at0) 2 rfl, blk_cellv (HS.out.at0) 0 rfl, blk_cellv (HS.out.at0) 1 rfl⟩) (fun hHeld => ?_)
          clear hK K
          refine norm_ (a' := ?_) ?_ ?_
          rotate_left
          · show Act.put _ (some 19) _ = _
            simp only [Act.put, List.setIfInBounds_toArray, List.set_cons_zero, List.set_cons_succ, i64_w, i32_w]
            rfl
          refine two_ (i := 8) (j := 14) (Ni := some 20) (Nj := some 5) #[true, true, true, true, true, true, true, true, true, false, true, true, true, false, false, false] #[true, true, true, true, true, true, true, true, false, false, true, true, true, false, true, false] rfl rfl rfl rfl (by kernel_rfl) (by decide) (by decide) (fun K hK => ?_) (fun K hK => ?_)
          · refine slice_step (n := 3) (by rfl) (N := 20) rfl (cs := #[.int .i64 24, .int .i64 a29, .int .i64 t162]) (t := 3) ?hr ?_
            case hr => first | (go_simp; done) | (go_simp; rfl)
            intro g219 hg w220 hbox hb
            replace HS : Aside0 (Sep (fps []) w [b1 g31 a27 a28 a29 a30, b2 g34 0 0 0 0 0 0 0 0, b3 g214 a27 a28, b4 g219 24 a29 t162] w220) := ⟨HS.out.box hg hbox hb⟩
            clear hg hbox hb
            refine hK.out _ _ (⟨blk_cellv (HS.out.at0) 2 rfl, blk_cellv (HS.out.at0) 0 rfl, blk_cellv (HS.out.at0) 1 rfl⟩) (fun hHeld => ?_)
            clear hK K
            refine norm_ (a' := ?_) ?_ ?_
            rotate_left
            · show Act.put _ (some 20) _ = _
              simp only [Act.put, List.setIfInBounds_toArray, List.set_cons_zero, List.set_cons_succ, i64_w, i32_w]
              rfl
            refine two_ (i := 9) (j := 14) (Ni := some 21) (Nj := some 5) #[true, true, true, true, true, true, true, true, true, true, true, true, true, false, false, false] #[true, true, true, true, true, true, true, true, true, false, true, true, true, false, true, false] rfl rfl rfl rfl (by kernel_rfl) (by decide) (by decide) (fun K hK => ?_) (fun K hK => ?_)
            · refine goes_ Try.func106 (by kernel_rfl) rfl #[.slice (some ⟨g219, 0, none⟩) 3 3] (by rfl) rfl rfl (by (try simp only [List.map_toArray, List.map_cons, List.map_nil]); first | done | rfl) ?_
              refine (ratio_Add.calls _ [24, a29, t162] (some ⟨g219, 0, none⟩) 3 t188 _ ⟨Rd.lit (l := []) (xs := [24, a29, t162]) HS.out 3 rfl (by simp)⟩ ⟨Sep.start _⟩ HA189).mono ?_
              rintro e_ w223 ⟨rfl, hS⟩
              replace HS : Aside0 (Sep (fps []) w [b1 g31 a27 a28 a29 a30, b2 g34 0 0 0 0 0 0 0 0, b3 g214 a27 a28, b4 g219 24 a29 t162] w223) := ⟨HS.out.call hS⟩
              clear hS
              refine ⟨_, rfl, ?_⟩
              refine hK.out _ _ (⟨blk_cellv (HS.out.at0) 2 rfl, blk_cellv (HS.out.at0) 0 rfl, blk_cellv (HS.out.at0) 1 rfl⟩) (fun hHeld => ?_)
              clear hK K
              refine norm_ (a' := ?_) ?_ ?_
              rotate_left
              · show Act.put _ (some 21) _ = _
                simp only [Act.put, List.setIfInBounds_toArray, List.set_cons_zero, List.set_cons_succ, i64_w, i32_w]
                rfl
              refine pure_ (i := 13) (N := some 25) (v := ?_) (a' := ?_) #[true, true, true, true, true, true, true, true, true, true, true, true, true, true, false, false] rfl rfl (by kernel_rfl) (fun _ _ _ h => h) (Or.inl ⟨by rfl, ?_⟩) ?_ ?_
              rotate_left
              · intro w'
                go_simp
                with_reducible rfl
              rotate_left
              · simp only [Act.put, List.setIfInBounds_toArray, List.set_cons_zero, List.set_cons_succ, i64_w, i32_w]
                rfl
              refine one_ (i := 14) (N := some 5) #[true, true, true, true, true, true, true, true, true, true, true, true, true, true, true, false] rfl rfl (by kernel_rfl) (by decide) (fun K hK => ?_)
              refine box_step (by rfl) (N := 5) rfl (cs := #[.int .i64 0, .int .i64 0, .int .i64 0, .int .i64 0, .int .i64 0, .int .i64 0, .int .i64 0, .int .i64 0]) (t := 120) ?hr ?_
              case hr => first | (go_simp; done) | (go_simp; rfl)
              intro g224 hg w225 hbox hb
              replace HS : Aside0 (Sep (fps []) w [b1 g31 a27 a28 a29 a30, b2 g34 0 0 0 0 0 0 0 0, b3 g214 a27 a28, b4 g219 24 a29 t162, b2 g224 0 0 0 0 0 0 0 0] w225) := ⟨HS.out.box hg hbox hb⟩
              clear hg hbox hb
              refine hK.out _ _ (⟨blk_cellv (HS.out.at0) 2 rfl, blk_cellv (HS.out.at0) 0 rfl, blk_cellv (HS.out.at0) 1 rfl⟩) (fun hHeld => ?_)
              clear hK K
              refine norm_ (a' := ?_) ?_ ?_
              rotate_left
              · show Act.put _ (some 5) _ = _
                simp only [Act.put, List.setIfInBounds_toArray, List.set_cons_zero, List.set_cons_succ, i64_w, i32_w]
                rfl
              refine one_ (i := 15) (N := none) #[true, true, true, true, true, true, true, true, true, true, true, true, true, true, true, true] rfl rfl (by kernel_rfl) (by decide) (fun K hK => ?_)
              have hc228 := blk_cellv (v := .int .i64 0) (HS.out.at4) 0 rfl
              have hz229 := blk_fz (HS.out.at4) 0
              have hc230 := blk_cellv (v := .int .i64 0) (HS.out.at4) 1 rfl
              have hz231 := blk_fz (HS.out.at4) 1
              have hc232 := blk_cellv (v := .int .i64 0) (HS.out.at4) 2 rfl
              have hz233 := blk_fz (HS.out.at4) 2
              have hc234 := blk_cellv (v := .int .i64 0) (HS.out.at4) 3 rfl
              have hz235 := blk_fz (HS.out.at4) 3
              have hc236 := blk_cellv (v := .int .i64 0) (HS.out.at4) 4 rfl
              have hz237 := blk_fz (HS.out.at4) 4
              have hc238 := blk_cellv (v := .int .i64 0) (HS.out.at4) 5 rfl
              have hz239 := blk_fz (HS.out.at4) 5
              have hc240 := blk_cellv (v := .int .i64 0) (HS.out.at4) 6 rfl
              have hz241 := blk_fz (HS.out.at4) 6
              have hc242 := blk_cellv (v := .int .i64 0) (HS.out.at4) 7 rfl
              have hz243 := blk_fz (HS.out.at4) 7
              refine store_step (w1 := (World.setCell (World.setCell (World.setCell (World.setCell (World.setCell (World.setCell (World.setCell (World.setCell w225 ⟨g224, 0, none⟩ (.int .i64 t188)) ⟨g224, 1, none⟩ (.int .i64 (wrap64 (a28 - 8)))) ⟨g224, 2, none⟩ (.int .i64 0)) ⟨g224, 3, none⟩ (.int .i64 0)) ⟨g224, 4, none⟩ (.int .i64 0)) ⟨g224, 5, none⟩ (.int .i64 0)) ⟨g224, 6, none⟩ (.int .i64 0)) ⟨g224, 7, none⟩ (.int .i64 0))) (by rfl) rfl ?hr ?_
              case hr => first | (go_simp; done) | (go_simp; rfl)
              clear hc228 hz229 hc230 hz231 hc232 hz233 hc234 hz235 hc236 hz237 hc238 hz239 hc240 hz241 hc242 hz243
              intro w227 hst
              replace HS : Aside0 (Sep (fps []) w [b1 g31 a27 a28 a29 a30, b2 g34 0 0 0 0 0 0 0 0, b3 g214 a27 a28, b4 g219 24 a29 t162, b2 g224 t188 (wrap64 (a28 - 8)) 0 0 0 0 0 0] w227) := ⟨by rw [hst]; exact HS.out.setAll (l1 := [b1 g31 a27 a28 a29 a30, b2 g34 0 0 0 0 0 0 0 0, b3 g214 a27 a28, b4 g219 24 a29 t162]) (l2 := []) [.int .i64 t188, .int .i64 (wrap64 (a28 - 8)), .int .i64 0, .int .i64 0, .int .i64 0, .int .i64 0, .int .i64 0, .int .i64 0] rfl⟩
              clear hst
              refine hK.out _ _ (⟨blk_cellv (HS.out.at0) 2 rfl, blk_cellv (HS.out.at0) 0 rfl, blk_cellv (HS.out.at0) 1 rfl⟩) (fun hHeld => ?_)
              clear hK K
              refine done_ (by kernel_rfl) ?_
              go_wp2_with fail
              go_meet
              case rel => exact ⟨g214, g219, g224, (by first | rfl | (simp [IntKind.wrap_u32]; done)), ⟨(((((HS.out).front 4 (by simp)).front 4 (by simp)).front 4 (by simp)).front 4 (by simp)).front 4 (by simp)⟩⟩
            · refine box_step (by rfl) (N := 5) rfl (cs := #[.int .i64 0, .int .i64 0, .int .i64 0, .int .i64 0, .int .i64 0, .int .i64 0, .int .i64 0, .int .i64 0]) (t := 120) ?hr ?_
              case hr => first | (go_simp; done) | (go_simp; rfl)
              intro g244 hg w245 hbox hb
              replace HS : Aside0 (Sep (fps []) w [b1 g31 a27 a28 a29 a30, b2 g34 0 0 0 0 0 0 0 0, b3 g214 a27 a28, b4 g219 24 a29 t162, b2 g244 0 0 0 0 0 0 0 0] w245) := ⟨HS.out.box hg hbox hb⟩
              clear hg hbox hb
              refine hK.out _ _ (⟨blk_cellv (HS.out.at0) 2 rfl, blk_cellv (HS.out.at0) 0 rfl, blk_cellv (HS.out.at0) 1 rfl⟩) (fun hHeld => ?_)
              clear hK K
              refine norm_ (a' := ?_) ?_ ?_
              rotate_left
              · show Act.put _ (some 5) _ = _
                simp only [Act.put, List.setIfInBounds_toArray, List.set_cons_zero, List.set_cons_succ, i64_w, i32_w]
                rfl
              refine one_ (i := 9) (N := some 21) #[true, true, true, true, true, true, true, true, true, true, true, true, true, false, true, false] rfl rfl (by kernel_rfl) (by decide) (fun K hK => ?_)
              refine goes_ Try.func106 (by kernel_rfl) rfl #[.slice (some ⟨g219, 0, none⟩) 3 3] (by rfl) rfl rfl (by (try simp only [List.map_toArray, List.map_cons, List.map_nil]); first | done | rfl) ?_
              refine (ratio_Add.calls _ [24, a29, t162] (some ⟨g219, 0, none⟩) 3 t188 _ ⟨Rd.lit (l := []) (xs := [24, a29, t162]) HS.out 3 rfl (by simp)⟩ ⟨Sep.start _⟩ HA189).mono ?_
              rintro e_ w248 ⟨rfl, hS⟩
              replace HS : Aside0 (Sep (fps []) w [b1 g31 a27 a28 a29 a30, b2 g34 0 0 0 0 0 0 0 0, b3 g214 a27 a28, b4 g219 24 a29 t162, b2 g244 0 0 0 0 0 0 0 0] w248) := ⟨HS.out.call hS⟩
              clear hS
              refine ⟨_, rfl, ?_⟩
              refine hK.out _ _ (⟨blk_cellv (HS.out.at0) 2 rfl, blk_cellv (HS.out.at0) 0 rfl, blk_cellv (HS.out.at0) 1 rfl⟩) (fun hHeld => ?_)
              clear hK K
              refine norm_ (a' := ?_) ?_ ?_
              rotate_left
              · show Act.put _ (some 21) _ = _
                simp only [Act.put, List.setIfInBounds_toArray, List.set_cons_zero, List.set_cons_succ, i64_w, i32_w]
                rfl
              refine pure_ (i := 13) (N := some 25) (v := ?_) (a' := ?_) #[true, true, true, true, true, true, true, true, true, true, true, true, true, true, true, false] rfl rfl (by kernel_rfl) (fun _ _ _ h => h) (Or.inl ⟨by rfl, ?_⟩) ?_ ?_
              rotate_left
              · intro w'
                go_simp
                with_reducible rfl
              rotate_left
              · simp only [Act.put, List.setIfInBounds_toArray, List.set_cons_zero, List.set_cons_succ, i64_w, i32_w]
                rfl
              refine one_ (i := 15) (N := none) #[true, true, true, true, true, true, true, true, true, true, true, true, true, true, true, true] rfl rfl (by kernel_rfl) (by decide) (fun K hK => ?_)
              have hc250 := blk_cellv (v := .int .i64 0) (HS.out.at4) 0 rfl
              have hz251 := blk_fz (HS.out.at4) 0
              have hc252 := blk_cellv (v := .int .i64 0) (HS.out.at4) 1 rfl
              have hz253 := blk_fz (HS.out.at4) 1
              have hc254 := blk_cellv (v := .int .i64 0) (HS.out.at4) 2 rfl
              have hz255 := blk_fz (HS.out.at4) 2
              have hc256 := blk_cellv (v := .int .i64 0) (HS.out.at4) 3 rfl
              have hz257 := blk_fz (HS.out.at4) 3
              have hc258 := blk_cellv (v := .int .i64 0) (HS.out.at4) 4 rfl
              have hz259 := blk_fz (HS.out.at4) 4
              have hc260 := blk_cellv (v := .int .i64 0) (HS.out.at4) 5 rfl
              have hz261 := blk_fz (HS.out.at4) 5
              have hc262 := blk_cellv (v := .int .i64 0) (HS.out.at4) 6 rfl
              have hz263 := blk_fz (HS.out.at4) 6
              have hc264 := blk_cellv (v := .int .i64 0) (HS.out.at4) 7 rfl
              have hz265 := blk_fz (HS.out.at4) 7
              refine store_step (w1 := (World.setCell (World.setCell (World.setCell (World.setCell (World.setCell (World.setCell (World.setCell (World.setCell w248 ⟨g244, 0, none⟩ (.int .i64 t188)) ⟨g244, 1, none⟩ (.int .i64 (wrap64 (a28 - 8)))) ⟨g244, 2, none⟩ (.int .i64 0)) ⟨g244, 3, none⟩ (.int .i64 0)) ⟨g244, 4, none⟩ (.int .i64 0)) ⟨g244, 5, none⟩ (.int .i64 0)) ⟨g244, 6, none⟩ (.int .i64 0)) ⟨g244, 7, none⟩ (.int .i64 0))) (by rfl) rfl ?hr ?_
              case hr => first | (go_simp; done) | (go_simp; rfl)
              clear hc250 hz251 hc252 hz253 hc254 hz255 hc256 hz257 hc258 hz259 hc260 hz261 hc262 hz263 hc264 hz265
              intro w249 hst
              replace HS : Aside0 (Sep (fps []) w [b1 g31 a27 a28 a29 a30, b2 g34 0 0 0 0 0 0 0 0, b3 g214 a27 a28, b4 g219 24 a29 t162, b2 g244 t188 (wrap64 (a28 - 8)) 0 0 0 0 0 0] w249) := ⟨by rw [hst]; exact HS.out.setAll (l1 := [b1 g31 a27 a28 a29 a30, b2 g34 0 0 0 0 0 0 0 0, b3 g214 a27 a28, b4 g219 24 a29 t162]) (l2 := []) [.int .i64 t188, .int .i64 (wrap64 (a28 - 8)), .int .i64 0, .int .i64 0, .int .i64 0, .int .i64 0, .int .i64 0, .int .i64 0] rfl⟩
              clear hst
              refine hK.out _ _ (⟨blk_cellv (HS.out.at0) 2 rfl, blk_cellv (HS.out.at0) 0 rfl, blk_cellv (HS.out.at0) 1 rfl⟩) (fun hHeld => ?_)
              clear hK K
              refine done_ (by kernel_rfl) ?_
              go_wp2_with fail
              go_meet
              case rel => exact ⟨g214, g219, g244, (by first | rfl | (simp [IntKind.wrap_u32]; done)), ⟨(((((HS.out).front 4 (by simp)).front 4 (by simp)).front 4 (by simp)).front 4 (by simp)).front 4 (by simp)⟩⟩
          · refine box_step (by rfl) (N := 5) rfl (cs := #[.int .i64 0, .int .i64 0, .int .i64 0, .int .i64 0, .int .i64 0, .int .i64 0, .int .i64 0, .int .i64 0]) (t := 120) ?hr ?_
            case hr => first | (go_simp; done) | (go_simp; rfl)
            intro g266 hg w267 hbox hb
            replace HS : Aside0 (Sep (fps []) w [b1 g31 a27 a28 a29 a30, b2 g34 0 0 0 0 0 0 0 0, b3 g214 a27 a28, b2 g266 0 0 0 0 0 0 0 0] w267) := ⟨HS.out.box hg hbox hb⟩
            clear hg hbox hb
            refine hK.out _ _ (⟨blk_cellv (HS.out.at0) 2 rfl, blk_cellv (HS.out.at0) 0 rfl, blk_cellv (HS.out.at0) 1 rfl⟩) (fun hHeld => ?_)
            clear hK K
            refine norm_ (a' := ?_) ?_ ?_
            rotate_left
            · show Act.put _ (some 5) _ = _
              simp only [Act.put, List.setIfInBounds_toArray, List.set_cons_zero, List.set_cons_succ, i64_w, i32_w]
              rfl
            refine one_ (i := 8) (N := some 20) #[true, true, true, true, true, true, true, true, true, false, true, true, true, false, true, false] rfl rfl (by kernel_rfl) (by decide) (fun K hK => ?_)
            refine slice_step (n := 3) (by rfl) (N := 20) rfl (cs := #[.int .i64 24, .int .i64 a29, .int .i64 t162]) (t := 3) ?hr ?_
            case hr => first | (go_simp; done) | (go_simp; rfl)
            intro g269 hg w270 hbox hb
            replace HS : Aside0 (Sep (fps []) w [b1 g31 a27 a28 a29 a30, b2 g34 0 0 0 0 0 0 0 0, b3 g214 a27 a28, b2 g266 0 0 0 0 0 0 0 0, b4 g269 24 a29 t162] w270) := ⟨HS.out.box hg hbox hb⟩
            clear hg hbox hb
            refine hK.out _ _ (⟨blk_cellv (HS.out.at0) 2 rfl, blk_cellv (HS.out.at0) 0 rfl, blk_cellv (HS.out.at0) 1 rfl⟩) (fun hHeld => ?_)
            clear hK K
            refine norm_ (a' := ?_) ?_ ?_
            rotate_left
            · show Act.put _ (some 20) _ = _
              simp only [Act.put, List.setIfInBounds_toArray, List.set_cons_zero, List.set_cons_succ, i64_w, i32_w]
              rfl
            refine one_ (i := 9) (N := some 21) #[true, true, true, true, true, true, true, true, true, true, true, true, true, false, true, false] rfl rfl (by kernel_rfl) (by decide) (fun K hK => ?_)
            refine goes_ Try.func106 (by kernel_rfl) rfl #[.slice (some ⟨g269, 0, none⟩) 3 3] (by rfl) rfl rfl (by (try simp only [List.map_toArray, List.map_cons, List.map_nil]); first | done | rfl) ?_
            refine (ratio_Add.calls _ [24, a29, t162] (some ⟨g269, 0, none⟩) 3 t188 _ ⟨Rd.lit (l := []) (xs := [24, a29, t162]) HS.out 4 rfl (by simp)⟩ ⟨Sep.start _⟩ HA189).mono ?_
            rintro e_ w273 ⟨rfl, hS⟩
            replace HS : Aside0 (Sep (fps []) w [b1 g31 a27 a28 a29 a30, b2 g34 0 0 0 0 0 0 0 0, b3 g214 a27 a28, b2 g266 0 0 0 0 0 0 0 0, b4 g269 24 a29 t162] w273) := ⟨HS.out.call hS⟩
            clear hS
            refine ⟨_, rfl, ?_⟩
            refine hK.out _ _ (⟨blk_cellv (HS.out.at0) 2 rfl, blk_cellv (HS.out.at0) 0 rfl, blk_cellv (HS.out.at0) 1 rfl⟩) (fun hHeld => ?_)
            clear hK K
            refine norm_ (a' := ?_) ?_ ?_
            rotate_left
            · show Act.put _ (some 21) _ = _
              simp only [Act.put, List.setIfInBounds_toArray, List.set_cons_zero, List.set_cons_succ, i64_w, i32_w]
              rfl
            refine pure_ (i := 13) (N := some 25) (v := ?_) (a' := ?_) #[true, true, true, true, true, true, true, true, true, true, true, true, true, true, true, false] rfl rfl (by kernel_rfl) (fun _ _ _ h => h) (Or.inl ⟨by rfl, ?_⟩) ?_ ?_
            rotate_left
            · intro w'
              go_simp
              with_reducible rfl
            rotate_left
            · simp only [Act.put, List.setIfInBounds_toArray, List.set_cons_zero, List.set_cons_succ, i64_w, i32_w]
              rfl
            refine one_ (i := 15) (N := none) #[true, true, true, true, true, true, true, true, true, true, true, true, true, true, true, true] rfl rfl (by kernel_rfl) (by decide) (fun K hK => ?_)
            have hc275 := blk_cellv (v := .int .i64 0) (HS.out.at3) 0 rfl
            have hz276 := blk_fz (HS.out.at3) 0
            have hc277 := blk_cellv (v := .int .i64 0) (HS.out.at3) 1 rfl
            have hz278 := blk_fz (HS.out.at3) 1
            have hc279 := blk_cellv (v := .int .i64 0) (HS.out.at3) 2 rfl
            have hz280 := blk_fz (HS.out.at3) 2
            have hc281 := blk_cellv (v := .int .i64 0) (HS.out.at3) 3 rfl
            have hz282 := blk_fz (HS.out.at3) 3
            have hc283 := blk_cellv (v := .int .i64 0) (HS.out.at3) 4 rfl
            have hz284 := blk_fz (HS.out.at3) 4
            have hc285 := blk_cellv (v := .int .i64 0) (HS.out.at3) 5 rfl
            have hz286 := blk_fz (HS.out.at3) 5
            have hc287 := blk_cellv (v := .int .i64 0) (HS.out.at3) 6 rfl
            have hz288 := blk_fz (HS.out.at3) 6
            have hc289 := blk_cellv (v := .int .i64 0) (HS.out.at3) 7 rfl
            have hz290 := blk_fz (HS.out.at3) 7
            refine store_step (w1 := (World.setCell (World.setCell (World.setCell (World.setCell (World.setCell (World.setCell (World.setCell (World.setCell w273 ⟨g266, 0, none⟩ (.int .i64 t188)) ⟨g266, 1, none⟩ (.int .i64 (wrap64 (a28 - 8)))) ⟨g266, 2, none⟩ (.int .i64 0)) ⟨g266, 3, none⟩ (.int .i64 0)) ⟨g266, 4, none⟩ (.int .i64 0)) ⟨g266, 5, none⟩ (.int .i64 0)) ⟨g266, 6, none⟩ (.int .i64 0)) ⟨g266, 7, none⟩ (.int .i64 0))) (by rfl) rfl ?hr ?_
            case hr => first | (go_simp; done) | (go_simp; rfl)
            clear hc275 hz276 hc277 hz278 hc279 hz280 hc281 hz282 hc283 hz284 hc285 hz286 hc287 hz288 hc289 hz290
            intro w274 hst
            replace HS : Aside0 (Sep (fps []) w [b1 g31 a27 a28 a29 a30, b2 g34 0 0 0 0 0 0 0 0, b3 g214 a27 a28, b2 g266 t188 (wrap64 (a28 - 8)) 0 0 0 0 0 0, b4 g269 24 a29 t162] w274) := ⟨by rw [hst]; exact HS.out.setAll (l1 := [b1 g31 a27 a28 a29 a30, b2 g34 0 0 0 0 0 0 0 0, b3 g214 a27 a28]) (l2 := [b4 g269 24 a29 t162]) [.int .i64 t188, .int .i64 (wrap64 (a28 - 8)), .int .i64 0, .int .i64 0, .int .i64 0, .int .i64 0, .int .i64 0, .int .i64 0] rfl⟩
            clear hst
            refine hK.out _ _ (⟨blk_cellv (HS.out.at0) 2 rfl, blk_cellv (HS.out.at0) 0 rfl, blk_cellv (HS.out.at0) 1 rfl⟩) (fun hHeld => ?_)
            clear hK K
            refine done_ (by kernel_rfl) ?_
            go_wp2_with fail
            go_meet
            case rel => exact ⟨g214, g269, g266, (by first | rfl | (simp [IntKind.wrap_u32]; done)), ⟨(((((HS.out).front 3 (by simp)).front 4 (by simp)).front 4 (by simp)).front 4 (by simp)).front 4 (by simp)⟩⟩
        · refine box_step (by rfl) (N := 5) rfl (cs := #[.int .i64 0, .int .i64 0, .int .i64 0, .int .i64 0, .int .i64 0, .int .i64 0, .int .i64 0, .int .i64 0]) (t := 120) ?hr ?_
          case hr => first | (go_simp; done) | (go_simp; rfl)
          intro g291 hg w292 hbox hb
          replace HS : Aside0 (Sep (fps []) w [b1 g31 a27 a28 a29 a30, b2 g34 0 0 0 0 0 0 0 0, b3 g214 a27 a28, b2 g291 0 0 0 0 0 0 0 0] w292) := ⟨HS.out.box hg hbox hb⟩
          clear hg hbox hb
          refine hK.out _ _ (⟨blk_cellv (HS.out.at0) 2 rfl, blk_cellv (HS.out.at0) 0 rfl, blk_cellv (HS.out.at0) 1 rfl⟩) (fun hHeld => ?_)
          clear hK K
          refine norm_ (a' := ?_) ?_ ?_
          rotate_left
          · show Act.put _ (some 5) _ = _
            simp only [Act.put, List.setIfInBounds_toArray, List.set_cons_zero, List.set_cons_succ, i64_w, i32_w]
            rfl
          refine one_ (i := 7) (N := some 19) #[true, true, true, true, true, true, true, true, false, false, true, true, true, false, true, false] rfl rfl (by kernel_rfl) (by decide) (fun K hK => ?_)
          refine goes_ Try.func107 (by kernel_rfl) rfl #[.slice (some ⟨g214, 0, none⟩) 2 2] (by rfl) rfl rfl (by (try simp only [List.map_toArray, List.map_cons, List.map_nil]); first | done | rfl) ?_
          refine (ratio_Mul.calls _ [a27, a28] (some ⟨g214, 0, none⟩) 2 t162 _ ⟨Rd.lit (l := []) (xs := [a27, a28]) HS.out 2 rfl (by simp)⟩ ⟨Sep.start _⟩ HA163).mono ?_
          rintro e_ w295 ⟨rfl, hS⟩
          replace HS : Aside0 (Sep (fps []) w [b1 g31 a27 a28 a29 a30, b2 g34 0 0 0 0 0 0 0 0, b3 g214 a27 a28, b2 g291 0 0 0 0 0 0 0 0] w295) := ⟨HS.out.call hS⟩
          clear hS
          refine ⟨_, rfl, ?_⟩
          refine hK.out _ _ (⟨blk_cellv (HS.out.at0) 2 rfl, blk_cellv (HS.out.at0) 0 rfl, blk_cellv (HS.out.at0) 1 rfl⟩) (fun hHeld => ?_)
          clear hK K
          refine norm_ (a' := ?_) ?_ ?_
          rotate_left
          · show Act.put _ (some 19) _ = _
            simp only [Act.put, List.setIfInBounds_toArray, List.set_cons_zero, List.set_cons_succ, i64_w, i32_w]
            rfl
          refine one_ (i := 8) (N := some 20) #[true, true, true, true, true, true, true, true, true, false, true, true, true, false, true, false] rfl rfl (by kernel_rfl) (by decide) (fun K hK => ?_)
          refine slice_step (n := 3) (by rfl) (N := 20) rfl (cs := #[.int .i64 24, .int .i64 a29, .int .i64 t162]) (t := 3) ?hr ?_
          case hr => first | (go_simp; done) | (go_simp; rfl)
          intro g296 hg w297 hbox hb
          replace HS : Aside0 (Sep (fps []) w [b1 g31 a27 a28 a29 a30, b2 g34 0 0 0 0 0 0 0 0, b3 g214 a27 a28, b2 g291 0 0 0 0 0 0 0 0, b4 g296 24 a29 t162] w297) := ⟨HS.out.box hg hbox hb⟩
          clear hg hbox hb
          refine hK.out _ _ (⟨blk_cellv (HS.out.at0) 2 rfl, blk_cellv (HS.out.at0) 0 rfl, blk_cellv (HS.out.at0) 1 rfl⟩) (fun hHeld => ?_)
          clear hK K
          refine norm_ (a' := ?_) ?_ ?_
          rotate_left
          · show Act.put _ (some 20) _ = _
            simp only [Act.put, List.setIfInBounds_toArray, List.set_cons_zero, List.set_cons_succ, i64_w, i32_w]
            rfl
          refine one_ (i := 9) (N := some 21) #[true, true, true, true, true, true, true, true, true, true, true, true, true, false, true, false] rfl rfl (by kernel_rfl) (by decide) (fun K hK => ?_)
          refine goes_ Try.func106 (by kernel_rfl) rfl #[.slice (some ⟨g296, 0, none⟩) 3 3] (by rfl) rfl rfl (by (try simp only [List.map_toArray, List.map_cons, List.map_nil]); first | done | rfl) ?_
          refine (ratio_Add.calls _ [24, a29, t162] (some ⟨g296, 0, none⟩) 3 t188 _ ⟨Rd.lit (l := []) (xs := [24, a29, t162]) HS.out 4 rfl (by simp)⟩ ⟨Sep.start _⟩ HA189).mono ?_
          rintro e_ w300 ⟨rfl, hS⟩
          replace HS : Aside0 (Sep (fps []) w [b1 g31 a27 a28 a29 a30, b2 g34 0 0 0 0 0 0 0 0, b3 g214 a27 a28, b2 g291 0 0 0 0 0 0 0 0, b4 g296 24 a29 t162] w300) := ⟨HS.out.call hS⟩
          clear hS
          refine ⟨_, rfl, ?_⟩
          refine hK.out _ _ (⟨blk_cellv (HS.out.at0) 2 rfl, blk_cellv (HS.out.at0) 0 rfl, blk_cellv (HS.out.at0) 1 rfl⟩) (fun hHeld => ?_)
          clear hK K
          refine norm_ (a' := ?_) ?_ ?_
          rotate_left
          · show Act.put _ (some 21) _ = _
            simp only [Act.put, List.setIfInBounds_toArray, List.set_cons_zero, List.set_cons_succ, i64_w, i32_w]
            rfl
          refine pure_ (i := 13) (N := some 25) (v := ?_) (a' := ?_) #[true, true, true, true, true, true, true, true, true, true, true, true, true, true, true, false] rfl rfl (by kernel_rfl) (fun _ _ _ h => h) (Or.inl ⟨by rfl, ?_⟩) ?_ ?_
          rotate_left
          · intro w'
            go_simp
            with_reducible rfl
          rotate_left
          · simp only [Act.put, List.setIfInBounds_toArray, List.set_cons_zero, List.set_cons_succ, i64_w, i32_w]
            rfl
          refine one_ (i := 15) (N := none) #[true, true, true, true, true, true, true, true, true, true, true, true, true, true, true, true] rfl rfl (by kernel_rfl) (by decide) (fun K hK => ?_)
          have hc302 := blk_cellv (v := .int .i64 0) (HS.out.at3) 0 rfl
          have hz303 := blk_fz (HS.out.at3) 0
          have hc304 := blk_cellv (v := .int .i64 0) (HS.out.at3) 1 rfl
          have hz305 := blk_fz (HS.out.at3) 1
          have hc306 := blk_cellv (v := .int .i64 0) (HS.out.at3) 2 rfl
          have hz307 := blk_fz (HS.out.at3) 2
          have hc308 := blk_cellv (v := .int .i64 0) (HS.out.at3) 3 rfl
          have hz309 := blk_fz (HS.out.at3) 3
          have hc310 := blk_cellv (v := .int .i64 0) (HS.out.at3) 4 rfl
          have hz311 := blk_fz (HS.out.at3) 4
          have hc312 := blk_cellv (v := .int .i64 0) (HS.out.at3) 5 rfl
          have hz313 := blk_fz (HS.out.at3) 5
          have hc314 := blk_cellv (v := .int .i64 0) (HS.out.at3) 6 rfl
          have hz315 := blk_fz (HS.out.at3) 6
          have hc316 := blk_cellv (v := .int .i64 0) (HS.out.at3) 7 rfl
          have hz317 := blk_fz (HS.out.at3) 7
          refine store_step (w1 := (World.setCell (World.setCell (World.setCell (World.setCell (World.setCell (World.setCell (World.setCell (World.setCell w300 ⟨g291, 0, none⟩ (.int .i64 t188)) ⟨g291, 1, none⟩ (.int .i64 (wrap64 (a28 - 8)))) ⟨g291, 2, none⟩ (.int .i64 0)) ⟨g291, 3, none⟩ (.int .i64 0)) ⟨g291, 4, none⟩ (.int .i64 0)) ⟨g291, 5, none⟩ (.int .i64 0)) ⟨g291, 6, none⟩ (.int .i64 0)) ⟨g291, 7, none⟩ (.int .i64 0))) (by rfl) rfl ?hr ?_
          case hr => first | (go_simp; done) | (go_simp; rfl)
          clear hc302 hz303 hc304 hz305 hc306 hz307 hc308 hz309 hc310 hz311 hc312 hz313 hc314 hz315 hc316 hz317
          intro w301 hst
          replace HS : Aside0 (Sep (fps []) w [b1 g31 a27 a28 a29 a30, b2 g34 0 0 0 0 0 0 0 0, b3 g214 a27 a28, b2 g291 t188 (wrap64 (a28 - 8)) 0 0 0 0 0 0, b4 g296 24 a29 t162] w301) := ⟨by rw [hst]; exact HS.out.setAll (l1 := [b1 g31 a27 a28 a29 a30, b2 g34 0 0 0 0 0 0 0 0, b3 g214 a27 a28]) (l2 := [b4 g296 24 a29 t162]) [.int .i64 t188, .int .i64 (wrap64 (a28 - 8)), .int .i64 0, .int .i64 0, .int .i64 0, .int .i64 0, .int .i64 0, .int .i64 0] rfl⟩
          clear hst
          refine hK.out _ _ (⟨blk_cellv (HS.out.at0) 2 rfl, blk_cellv (HS.out.at0) 0 rfl, blk_cellv (HS.out.at0) 1 rfl⟩) (fun hHeld => ?_)
          clear hK K
          refine done_ (by kernel_rfl) ?_
          go_wp2_with fail
          go_meet
          case rel => exact ⟨g214, g296, g291, (by first | rfl | (simp [IntKind.wrap_u32]; done)), ⟨(((((HS.out).front 3 (by simp)).front 4 (by simp)).front 4 (by simp)).front 4 (by simp)).front 4 (by simp)⟩⟩
      · refine box_step (by rfl) (N := 5) rfl (cs := #[.int .i64 0, .int .i64 0, .int .i64 0, .int .i64 0, .int .i64 0, .int .i64 0, .int .i64 0, .int .i64 0]) (t := 120) ?hr ?_
        case hr => first | (go_simp; done) | (go_simp; rfl)
        intro g318 hg w319 hbox hb
        replace HS : Aside0 (Sep (fps []) w [b1 g31 a27 a28 a29 a30, b2 g34 0 0 0 0 0 0 0 0, b2 g318 0 0 0 0 0 0 0 0] w319) := ⟨HS.out.box hg hbox hb⟩
        clear hg hbox hb
        refine hK.out _ _ (⟨blk_cellv (HS.out.at0) 2 rfl, blk_cellv (HS.out.at0) 0 rfl, blk_cellv (HS.out.at0) 1 rfl⟩) (fun hHeld => ?_)
        clear hK K
        refine norm_ (a' := ?_) ?_ ?_
        rotate_left
        · show Act.put _ (some 5) _ = _
          simp only [Act.put, List.setIfInBounds_toArray, List.set_cons_zero, List.set_cons_succ, i64_w, i32_w]
          rfl
        refine one_ (i := 6) (N := some 18) #[true, true, true, true, true, true, true, false, false, false, true, true, true, false, true, false] rfl rfl (by kernel_rfl) (by decide) (fun K hK => ?_)
        refine slice_step (n := 2) (by rfl) (N := 18) rfl (cs := #[.int .i64 a27, .int .i64 a28]) (t := 3) ?hr ?_
        case hr => first | (go_simp; done) | (go_simp; rfl)
        intro g321 hg w322 hbox hb
        replace HS : Aside0 (Sep (fps []) w [b1 g31 a27 a28 a29 a30, b2 g34 0 0 0 0 0 0 0 0, b2 g318 0 0 0 0 0 0 0 0, b3 g321 a27 a28] w322) := ⟨HS.out.box hg hbox hb⟩
        clear hg hbox hb
        refine hK.out _ _ (⟨blk_cellv (HS.out.at0) 2 rfl, blk_cellv (HS.out.at0) 0 rfl, blk_cellv (HS.out.at0) 1 rfl⟩) (fun hHeld => ?_)
        clear hK K
        refine norm_ (a' := ?_) ?_ ?_
        rotate_left
        · show Act.put _ (some 18) _ = _
          simp only [Act.put, List.setIfInBounds_toArray, List.set_cons_zero, List.set_cons_succ, i64_w, i32_w]
          rfl
        refine one_ (i := 7) (N := some 19) #[true, true, true, true, true, true, true, true, false, false, true, true, true, false, true, false] rfl rfl (by kernel_rfl) (by decide) (fun K hK => ?_)
        refine goes_ Try.func107 (by kernel_rfl) rfl #[.slice (some ⟨g321, 0, none⟩) 2 2] (by rfl) rfl rfl (by (try simp only [List.map_toArray, List.map_cons, List.map_nil]); first | done | rfl) ?_
        refine (ratio_Mul.calls _ [a27, a28] (some ⟨g321, 0, none⟩) 2 t162 _ ⟨Rd.lit (l := []) (xs := [a27, a28]) HS.out 3 rfl (by simp)⟩ ⟨Sep.start _⟩ HA163).mono ?_
        rintro e_ w325 ⟨rfl, hS⟩
        replace HS : Aside0 (Sep (fps []) w [b1 g31 a27 a28 a29 a30, b2 g34 0 0 0 0 0 0 0 0, b2 g318 0 0 0 0 0 0 0 0, b3 g321 a27 a28] w325) := ⟨HS.out.call hS⟩
        clear hS
        refine ⟨_, rfl, ?_⟩
        refine hK.out _ _ (⟨blk_cellv (HS.out.at0) 2 rfl, blk_cellv (HS.out.at0) 0 rfl, blk_cellv (HS.out.at0) 1 rfl⟩) (fun hHeld => ?_)
        clear hK K
        refine norm_ (a' := ?_) ?_ ?_
        rotate_left
        · show Act.put _ (some 19) _ = _
          simp only [Act.put, List.setIfInBounds_toArray, List.set_cons_zero, List.set_cons_succ, i64_w, i32_w]
          rfl
        refine one_ (i := 8) (N := some 20) #[true, true, true, true, true, true, true, true, true, false, true, true, true, false, true, false] rfl rfl (by kernel_rfl) (by decide) (fun K hK => ?_)
        refine slice_step (n := 3) (by rfl) (N := 20) rfl (cs := #[.int .i64 24, .int .i64 a29, .int .i64 t162]) (t := 3) ?hr ?_
        case hr => first | (go_simp; done) | (go_simp; rfl)
        intro g326 hg w327 hbox hb
        replace HS : Aside0 (Sep (fps []) w [b1 g31 a27 a28 a29 a30, b2 g34 0 0 0 0 0 0 0 0, b2 g318 0 0 0 0 0 0 0 0, b3 g321 a27 a28, b4 g326 24 a29 t162] w327) := ⟨HS.out.box hg hbox hb⟩
        clear hg hbox hb
        refine hK.out _ _ (⟨blk_cellv (HS.out.at0) 2 rfl, blk_cellv (HS.out.at0) 0 rfl, blk_cellv (HS.out.at0) 1 rfl⟩) (fun hHeld => ?_)
        clear hK K
        refine norm_ (a' := ?_) ?_ ?_
        rotate_left
        · show Act.put _ (some 20) _ = _
          simp only [Act.put, List.setIfInBounds_toArray, List.set_cons_zero, List.set_cons_succ, i64_w, i32_w]
          rfl
        refine one_ (i := 9) (N := some 21) #[true, true, true, true, true, true, true, true, true, true, true, true, true, false, true, false] rfl rfl (by kernel_rfl) (by decide) (fun K hK => ?_)
        refine goes_ Try.func106 (by kernel_rfl) rfl #[.slice (some ⟨g326, 0, none⟩) 3 3] (by rfl) rfl rfl (by (try simp only [List.map_toArray, List.map_cons, List.map_nil]); first | done | rfl) ?_
        refine (ratio_Add.calls _ [24, a29, t162] (some ⟨g326, 0, none⟩) 3 t188 _ ⟨Rd.lit (l := []) (xs := [24, a29, t162]) HS.out 4 rfl (by simp)⟩ ⟨Sep.start _⟩ HA189).mono ?_
        rintro e_ w330 ⟨rfl, hS⟩
        replace HS : Aside0 (Sep (fps []) w [b1 g31 a27 a28 a29 a30, b2 g34 0 0 0 0 0 0 0 0, b2 g318 0 0 0 0 0 0 0 0, b3 g321 a27 a28, b4 g326 24 a29 t162] w330) := ⟨HS.out.call hS⟩
        clear hS
        refine ⟨_, rfl, ?_⟩
        refine hK.out _ _ (⟨blk_cellv (HS.out.at0) 2 rfl, blk_cellv (HS.out.at0) 0 rfl, blk_cellv (HS.out.at0) 1 rfl⟩) (fun hHeld => ?_)
        clear hK K
        refine norm_ (a' := ?_) ?_ ?_
        rotate_left
        · show Act.put _ (some 21) _ = _
          simp only [Act.put, List.setIfInBounds_toArray, List.set_cons_zero, List.set_cons_succ, i64_w, i32_w]
          rfl
        refine pure_ (i := 13) (N := some 25) (v := ?_) (a' := ?_) #[true, true, true, true, true, true, true, true, true, true, true, true, true, true, true, false] rfl rfl (by kernel_rfl) (fun _ _ _ h => h) (Or.inl ⟨by rfl, ?_⟩) ?_ ?_
        rotate_left
        · intro w'
          go_simp
          with_reducible rfl
        rotate_left
        · simp only [Act.put, List.setIfInBounds_toArray, List.set_cons_zero, List.set_cons_succ, i64_w, i32_w]
          rfl
        refine one_ (i := 15) (N := none) #[true, true, true, true, true, true, true, true, true, true, true, true, true, true, true, true] rfl rfl (by kernel_rfl) (by decide) (fun K hK => ?_)
        have hc332 := blk_cellv (v := .int .i64 0) (HS.out.at2) 0 rfl
        have hz333 := blk_fz (HS.out.at2) 0
        have hc334 := blk_cellv (v := .int .i64 0) (HS.out.at2) 1 rfl
        have hz335 := blk_fz (HS.out.at2) 1
        have hc336 := blk_cellv (v := .int .i64 0) (HS.out.at2) 2 rfl
        have hz337 := blk_fz (HS.out.at2) 2
        have hc338 := blk_cellv (v := .int .i64 0) (HS.out.at2) 3 rfl
        have hz339 := blk_fz (HS.out.at2) 3
        have hc340 := blk_cellv (v := .int .i64 0) (HS.out.at2) 4 rfl
        have hz341 := blk_fz (HS.out.at2) 4
        have hc342 := blk_cellv (v := .int .i64 0) (HS.out.at2) 5 rfl
        have hz343 := blk_fz (HS.out.at2) 5
        have hc344 := blk_cellv (v := .int .i64 0) (HS.out.at2) 6 rfl
        have hz345 := blk_fz (HS.out.at2) 6
        have hc346 := blk_cellv (v := .int .i64 0) (HS.out.at2) 7 rfl
        have hz347 := blk_fz (HS.out.at2) 7
        refine store_step (w1 := (World.setCell (World.setCell (World.setCell (World.setCell (World.setCell (World.setCell (World.setCell (World.setCell w330 ⟨g318, 0, none⟩ (.int .i64 t188)) ⟨g318, 1, none⟩ (.int .i64 (wrap64 (a28 - 8)))) ⟨g318, 2, none⟩ (.int .i64 0)) ⟨g318, 3, none⟩ (.int .i64 0)) ⟨g318, 4, none⟩ (.int .i64 0)) ⟨g318, 5, none⟩ (.int .i64 0)) ⟨g318, 6, none⟩ (.int .i64 0)) ⟨g318, 7, none⟩ (.int .i64 0))) (by rfl) rfl ?hr ?_
        case hr => first | (go_simp; done) | (go_simp; rfl)
        clear hc332 hz333 hc334 hz335 hc336 hz337 hc338 hz339 hc340 hz341 hc342 hz343 hc344 hz345 hc346 hz347
        intro w331 hst
        replace HS : Aside0 (Sep (fps []) w [b1 g31 a27 a28 a29 a30, b2 g34 0 0 0 0 0 0 0 0, b2 g318 t188 (wrap64 (a28 - 8)) 0 0 0 0 0 0, b3 g321 a27 a28, b4 g326 24 a29 t162] w331) := ⟨by rw [hst]; exact HS.out.setAll (l1 := [b1 g31 a27 a28 a29 a30, b2 g34 0 0 0 0 0 0 0 0]) (l2 := [b3 g321 a27 a28, b4 g326 24 a29 t162]) [.int .i64 t188, .int .i64 (wrap64 (a28 - 8)), .int .i64 0, .int .i64 0, .int .i64 0, .int .i64 0, .int .i64 0, .int .i64 0] rfl⟩
        clear hst
        refine hK.out _ _ (⟨blk_cellv (HS.out.at0) 2 rfl, blk_cellv (HS.out.at0) 0 rfl, blk_cellv (HS.out.at0) 1 rfl⟩) (fun hHeld => ?_)
        clear hK K
        refine done_ (by kernel_rfl) ?_
        go_wp2_with fail
        go_meet
        case rel => exact ⟨g321, g326, g318, (by first | rfl | (simp [IntKind.wrap_u32]; done)), ⟨(((((HS.out).front 2 (by simp)).front 4 (by simp)).front 4 (by simp)).front 4 (by simp)).front 4 (by simp)⟩⟩
    case rest =>
      clear HS
      obtain ⟨g88, g165, g191, rfl, HS⟩ := hcut
      obtain ⟨w211, rfl⟩ : ∃ x : World, x = wc := ⟨_, rfl⟩
      replace HS : Aside0 (Sep (fps []) w [b1 g31 a27 a28 a29 a30, b2 g34 0 0 0 0 0 0 0 0, b2 g191 t188 (wrap64 (a28 - 8)) 0 0 0 0 0 0] w211) := ⟨HS.out.sub (.cons_cons _ (.cons_cons _ (.cons _ (.cons _ (.cons_cons _ .slnil)))))⟩
      have hc348 : w211.cell? ⟨g191, 1, none⟩ = some (.int .i64 (wrap64 (a28 - 8))) := blk_cellv (HS.out.at2) 1 rfl
      have hc349 : w211.cell? ⟨g191, 2, none⟩ = some (.int .i64 0) := blk_cellv (HS.out.at2) 2 rfl
      have hz350 : w211.frozen? ⟨g191, 2, none⟩ = false := blk_fz (HS.out.at2) 2
      go_wp2_with (first | ((with_reducible refine gate_store (t := 3) (p := 29) rfl ?_); refine store_event (w1 := (World.setCell w211 ⟨g191, 2, none⟩ (.int .i64 (wrap64 ((wrap64 (a28 - 8)) + 1))))) rfl (t := 3) (p := 29) rfl rfl ?hr ?_; (case hr => first | (go_simp; done) | (go_simp; rfl)); intro w351 hst; clear hc348 hc349 hz350; have hq0 : Sep (fps []) w [b1 g31 a27 a28 a29 a30, b2 g34 0 0 0 0 0 0 0 0, b2 g191 t188 (wrap64 (a28 - 8)) (wrap64 ((wrap64 (a28 - 8)) + 1)) 0 0 0 0 0] (World.setCell w211 ⟨g191, 2, none⟩ (.int .i64 (wrap64 ((wrap64 (a28 - 8)) + 1)))) := (HS.out).set1 (l1 := [b1 g31 a27 a28 a29 a30, b2 g34 0 0 0 0 0 0 0 0]) (l2 := []) 2 (.int .i64 (wrap64 ((wrap64 (a28 - 8)) + 1))); replace HS : Aside0 (Sep (fps []) w [b1 g31 a27 a28 a29 a30, b2 g34 0 0 0 0 0 0 0 0, b2 g191 t188 (wrap64 (a28 - 8)) (wrap64 ((wrap64 (a28 - 8)) + 1)) 0 0 0 0 0] w351) := ⟨by rw [hst]; exact hq0⟩; clear hq0; clear hst; have hc352 : w351.cell? ⟨g191, 1, none⟩ = some (.int .i64 (wrap64 (a28 - 8))) := blk_cellv (HS.out.at2) 1 rfl; have hc353 : w351.cell? ⟨g31, 1, none⟩ = some (.int .i64 a28) := blk_cellv (HS.out.at0) 1 rfl) | ((with_reducible refine gate_dst (N := 35) rfl ?_); refine slice_on (n := 2) ?hg (N := 35) ?hd (cs := #[.int .i64 (wrap64 (a28 - 8)), .int .i64 (wrap64 (a28 - 1))]) (t := 3) ?hr ?_; (case hd => rfl); (case hg => rfl); (case hr => first | (go_simp; done) | (go_simp; rfl)); intro g354 hg w355 hbox hb; clear hc352 hc353; replace HS : Aside0 (Sep (fps []) w [b1 g31 a27 a28 a29 a30, b2 g34 0 0 0 0 0 0 0 0, b2 g191 t188 (wrap64 (a28 - 8)) (wrap64 ((wrap64 (a28 - 8)) + 1)) 0 0 0 0 0, b3 g354 (wrap64 (a28 - 8)) (wrap64 (a28 - 1))] w355) := ⟨HS.out.box hg hbox hb⟩; clear hg hbox hb))
      obtain ⟨t357, HA358, H⟩ := bind_some H
      refine (ratio_Mul.calls _ [wrap64 (a28 - 8), wrap64 (a28 - 1)] (some ⟨g354, 0, none⟩) 2 t357 _ ⟨Rd.lit (l := []) (xs := [wrap64 (a28 - 8), wrap64 (a28 - 1)]) HS.out 3 rfl (by simp)⟩ ⟨Sep.start _⟩ HA358).mono ?_
      rintro e_ w359 ⟨rfl, hS⟩
      replace HS : Aside0 (Sep (fps []) w [b1 g31 a27 a28 a29 a30, b2 g34 0 0 0 0 0 0 0 0, b2 g191 t188 (wrap64 (a28 - 8)) (wrap64 ((wrap64 (a28 - 8)) + 1)) 0 0 0 0 0, b3 g354 (wrap64 (a28 - 8)) (wrap64 (a28 - 1))] w359) := ⟨HS.out.call hS⟩
      clear hS
      have hc360 : w359.cell? ⟨g191, 3, none⟩ = some (.int .i64 0) := blk_cellv (HS.out.at2) 3 rfl
      have hz361 : w359.frozen? ⟨g191, 3, none⟩ = false := blk_fz (HS.out.at2) 3
      go_wp2_with (first | ((with_reducible refine gate_store (t := 3) (p := 37) rfl ?_); refine store_event (w1 := (World.setCell w359 ⟨g191, 3, none⟩ (.int .i64 t357))) rfl (t := 3) (p := 37) rfl rfl ?hr ?_; (case hr => first | (go_simp; done) | (go_simp; rfl)); intro w362 hst; clear hc360 hz361; have hq0 : Sep (fps []) w [b1 g31 a27 a28 a29 a30, b2 g34 0 0 0 0 0 0 0 0, b2 g191 t188 (wrap64 (a28 - 8)) (wrap64 ((wrap64 (a28 - 8)) + 1)) t357 0 0 0 0, b3 g354 (wrap64 (a28 - 8)) (wrap64 (a28 - 1))] (World.setCell w359 ⟨g191, 3, none⟩ (.int .i64 t357)) := (HS.out).set1 (l1 := [b1 g31 a27 a28 a29 a30, b2 g34 0 0 0 0 0 0 0 0]) (l2 := [b3 g354 (wrap64 (a28 - 8)) (wrap64 (a28 - 1))]) 3 (.int .i64 t357); replace HS : Aside0 (Sep (fps []) w [b1 g31 a27 a28 a29 a30, b2 g34 0 0 0 0 0 0 0 0, b2 g191 t188 (wrap64 (a28 - 8)) (wrap64 ((wrap64 (a28 - 8)) + 1)) t357 0 0 0 0, b3 g354 (wrap64 (a28 - 8)) (wrap64 (a28 - 1))] w362) := ⟨by rw [hst]; exact hq0⟩; clear hq0; clear hst; replace HS : Aside0 (Sep (fps []) w [b1 g31 a27 a28 a29 a30, b2 g34 0 0 0 0 0 0 0 0, b2 g191 t188 (wrap64 (a28 - 8)) (wrap64 ((wrap64 (a28 - 8)) + 1)) t357 0 0 0 0] w362) := ⟨HS.out.sub (.cons_cons _ (.cons_cons _ (.cons_cons _ (.cons _ .slnil))))⟩; have hc363 : w362.cell? ⟨g31, 0, none⟩ = some (.int .i64 a27) := blk_cellv (HS.out.at0) 0 rfl; have hc364 : w362.cell? ⟨g31, 1, none⟩ = some (.int .i64 a28) := blk_cellv (HS.out.at0) 1 rfl) | ((with_reducible refine gate_dst (N := 43) rfl ?_); refine slice_on (n := 2) ?hg (N := 43) ?hd (cs := #[.int .i64 a27, .int .i64 (wrap64 (a28 + 1))]) (t := 3) ?hr ?_; (case hd => rfl); (case hg => rfl); (case hr => first | (go_simp; done) | (go_simp; rfl)); intro g365 hg w366 hbox hb; clear hc363 hc364; replace HS : Aside0 (Sep (fps []) w [b1 g31 a27 a28 a29 a30, b2 g34 0 0 0 0 0 0 0 0, b2 g191 t188 (wrap64 (a28 - 8)) (wrap64 ((wrap64 (a28 - 8)) + 1)) t357 0 0 0 0, b3 g365 a27 (wrap64 (a28 + 1))] w366) := ⟨HS.out.box hg hbox hb⟩; clear hg hbox hb))
      obtain ⟨t368, HA369, H⟩ := bind_some H
      refine (ratio_Mul.calls _ [a27, wrap64 (a28 + 1)] (some ⟨g365, 0, none⟩) 2 t368 _ ⟨Rd.lit (l := []) (xs := [a27, wrap64 (a28 + 1)]) HS.out 3 rfl (by simp)⟩ ⟨Sep.start _⟩ HA369).mono ?_
      rintro e_ w370 ⟨rfl, hS⟩
      replace HS : Aside0 (Sep (fps []) w [b1 g31 a27 a28 a29 a30, b2 g34 0 0 0 0 0 0 0 0, b2 g191 t188 (wrap64 (a28 - 8)) (wrap64 ((wrap64 (a28 - 8)) + 1)) t357 0 0 0 0, b3 g365 a27 (wrap64 (a28 + 1))] w370) := ⟨HS.out.call hS⟩
      clear hS
      have hc371 : w370.cell? ⟨g191, 5, none⟩ = some (.int .i64 0) := blk_cellv (HS.out.at2) 5 rfl
      have hz372 : w370.frozen? ⟨g191, 5, none⟩ = false := blk_fz (HS.out.at2) 5
      go_wp2_with (first | ((with_reducible refine gate_store (t := 3) (p := 45) rfl ?_); refine store_event (w1 := (World.setCell w370 ⟨g191, 5, none⟩ (.int .i64 t368))) rfl (t := 3) (p := 45) rfl rfl ?hr ?_; (case hr => first | (go_simp; done) | (go_simp; rfl)); intro w373 hst; clear hc371 hz372; have hq0 : Sep (fps []) w [b1 g31 a27 a28 a29 a30, b2 g34 0 0 0 0 0 0 0 0, b2 g191 t188 (wrap64 (a28 - 8)) (wrap64 ((wrap64 (a28 - 8)) + 1)) t357 0 t368 0 0, b3 g365 a27 (wrap64 (a28 + 1))] (World.setCell w370 ⟨g191, 5, none⟩ (.int .i64 t368)) := (HS.out).set1 (l1 := [b1 g31 a27 a28 a29 a30, b2 g34 0 0 0 0 0 0 0 0]) (l2 := [b3 g365 a27 (wrap64 (a28 + 1))]) 5 (.int .i64 t368); replace HS : Aside0 (Sep (fps []) w [b1 g31 a27 a28 a29 a30, b2 g34 0 0 0 0 0 0 0 0, b2 g191 t188 (wrap64 (a28 - 8)) (wrap64 ((wrap64 (a28 - 8)) + 1)) t357 0 t368 0 0, b3 g365 a27 (wrap64 (a28 + 1))] w373) := ⟨by rw [hst]; exact hq0⟩; clear hq0; clear hst; replace HS : Aside0 (Sep (fps []) w [b1 g31 a27 a28 a29 a30, b2 g34 0 0 0 0 0 0 0 0, b2 g191 t188 (wrap64 (a28 - 8)) (wrap64 ((wrap64 (a28 - 8)) + 1)) t357 0 t368 0 0] w373) := ⟨HS.out.sub (.cons_cons _ (.cons_cons _ (.cons_cons _ (.cons _ .slnil))))⟩; have hc374 : w373.cell? ⟨g191, 5, none⟩ = some (.int .i64 t368) := blk_cellv (HS.out.at2) 5 rfl) | ((with_reducible refine gate_dst (N := 48) rfl ?_); refine slice_on (n := 2) ?hg (N := 48) ?hd (cs := #[.int .i64 3, .int .i64 t368]) (t := 3) ?hr ?_; (case hd => rfl); (case hg => rfl); (case hr => first | (go_simp; done) | (go_simp; rfl)); intro g375 hg w376 hbox hb; clear hc374; replace HS : Aside0 (Sep (fps []) w [b1 g31 a27 a28 a29 a30, b2 g34 0 0 0 0 0 0 0 0, b2 g191 t188 (wrap64 (a28 - 8)) (wrap64 ((wrap64 (a28 - 8)) + 1)) t357 0 t368 0 0, b3 g375 3 t368] w376) := ⟨HS.out.box hg hbox hb⟩; clear hg hbox hb))
      obtain ⟨t378, HA379, H⟩ := bind_some H
      refine (ratio_Mul.calls _ [3, t368] (some ⟨g375, 0, none⟩) 2 t378 _ ⟨Rd.lit (l := []) (xs := [3, t368]) HS.out 3 rfl (by simp)⟩ ⟨Sep.start _⟩ HA379).mono ?_
      rintro e_ w380 ⟨rfl, hS⟩
      replace HS : Aside0 (Sep (fps []) w [b1 g31 a27 a28 a29 a30, b2 g34 0 0 0 0 0 0 0 0, b2 g191 t188 (wrap64 (a28 - 8)) (wrap64 ((wrap64 (a28 - 8)) + 1)) t357 0 t368 0 0, b3 g375 3 t368] w380) := ⟨HS.out.call hS⟩
      clear hS
      go_wp2_with (first | ((with_reducible refine gate_dst (N := 50) rfl ?_); refine slice_on (n := 2) ?hg (N := 50) ?hd (cs := #[.int .i64 t378, .int .i64 4]) (t := 3) ?hr ?_; (case hd => rfl); (case hg => rfl); (case hr => first | (go_simp; done) | (go_simp; rfl)); intro g381 hg w382 hbox hb; replace HS : Aside0 (Sep (fps []) w [b1 g31 a27 a28 a29 a30, b2 g34 0 0 0 0 0 0 0 0, b2 g191 t188 (wrap64 (a28 - 8)) (wrap64 ((wrap64 (a28 - 8)) + 1)) t357 0 t368 0 0, b3 g375 3 t368, b3 g381 t378 4] w382) := ⟨HS.out.box hg hbox hb⟩; clear hg hbox hb))
      obtain ⟨t384, HA385, H⟩ := bind_some H
      refine (ratio_Add.calls _ [t378, 4] (some ⟨g381, 0, none⟩) 2 t384 _ ⟨Rd.lit (l := []) (xs := [t378, 4]) HS.out 4 rfl (by simp)⟩ ⟨Sep.start _⟩ HA385).mono ?_
      rintro e_ w386 ⟨rfl, hS⟩
      replace HS : Aside0 (Sep (fps []) w [b1 g31 a27 a28 a29 a30, b2 g34 0 0 0 0 0 0 0 0, b2 g191 t188 (wrap64 (a28 - 8)) (wrap64 ((wrap64 (a28 - 8)) + 1)) t357 0 t368 0 0, b3 g375 3 t368, b3 g381 t378 4] w386) := ⟨HS.out.call hS⟩
      clear hS
      have hc387 : w386.cell? ⟨g191, 4, none⟩ = some (.int .i64 0) := blk_cellv (HS.out.at2) 4 rfl
      have hz388 : w386.frozen? ⟨g191, 4, none⟩ = false := blk_fz (HS.out.at2) 4
      go_wp2_with (first | ((with_reducible refine gate_store (t := 3) (p := 52) rfl ?_); refine store_event (w1 := (World.setCell w386 ⟨g191, 4, none⟩ (.int .i64 t384))) rfl (t := 3) (p := 52) rfl rfl ?hr ?_; (case hr => first | (go_simp; done) | (go_simp; rfl)); intro w389 hst; clear hc387 hz388; have hq0 : Sep (fps []) w [b1 g31 a27 a28 a29 a30, b2 g34 0 0 0 0 0 0 0 0, b2 g191 t188 (wrap64 (a28 - 8)) (wrap64 ((wrap64 (a28 - 8)) + 1)) t357 t384 t368 0 0, b3 g375 3 t368, b3 g381 t378 4] (World.setCell w386 ⟨g191, 4, none⟩ (.int .i64 t384)) := (HS.out).set1 (l1 := [b1 g31 a27 a28 a29 a30, b2 g34 0 0 0 0 0 0 0 0]) (l2 := [b3 g375 3 t368, b3 g381 t378 4]) 4 (.int .i64 t384); replace HS : Aside0 (Sep (fps []) w [b1 g31 a27 a28 a29 a30, b2 g34 0 0 0 0 0 0 0 0, b2 g191 t188 (wrap64 (a28 - 8)) (wrap64 ((wrap64 (a28 - 8)) + 1)) t357 t384 t368 0 0, b3 g375 3 t368, b3 g381 t378 4] w389) := ⟨by rw [hst]; exact hq0⟩; clear hq0; clear hst; replace HS : Aside0 (Sep (fps []) w [b1 g31 a27 a28 a29 a30, b2 g34 0 0 0 0 0 0 0 0, b2 g191 t188 (wrap64 (a28 - 8)) (wrap64 ((wrap64 (a28 - 8)) + 1)) t357 t384 t368 0 0] w389) := ⟨HS.out.sub (.cons_cons _ (.cons_cons _ (.cons_cons _ (.cons _ (.cons _ .slnil)))))⟩))
      obtain ⟨t409, HA410, H⟩ := bind_some H
      obtain ⟨t415, HA416, H⟩ := bind_some H
      obtain ⟨t421, HA422, H⟩ := bind_some H
      obtain ⟨t427, HA428, H⟩ := bind_some H
      go_cut [] (fun wc => ∃ (g412 : Nat) (g418 : Nat) (g424 : Nat), Aside0 (Sep (fps []) w [b1 g31 a27 a28 a29 a30, b2 g34 0 0 0 0 0 0 0 0, b2 g191 t188 (wrap64 (a28 - 8)) (wrap64 ((wrap64 (a28 - 8)) + 1)) t357 t384 t368 t427 0, b3 g412 2 t409, b3 g418 2 (wrap64 ((wrap64 (a28 - 8)) + 1)), b3 g424 t415 t421] wc))
      case first =>
        go_wp2_with fail
        refine start_ (n := 15) (S := (fun w' => w'.cell? ⟨g191, 4, none⟩ = some (.int .i64 t384) ∧ w'.cell? ⟨g31, 3, none⟩ = some (.int .i64 a30) ∧ w'.cell? ⟨g191, 2, none⟩ = some (.int .i64 (wrap64 ((wrap64 (a28 - 8)) + 1))))) (ds := []) #[false, false, false, false, false, false, false, false, false, false, false, false, false, false, false] (by kernel_rfl) rfl rfl (⟨blk_cellv ((HS.out.drew).at2) 4 rfl, blk_cellv ((HS.out.drew).at0) 3 rfl, blk_cellv ((HS.out.drew).at2) 2 rfl⟩) (fun hHeld => ?_)
        have HS_ := Aside0.mk HS.out.drew
        clear HS
        generalize World.drew _ = w435 at HS_ hHeld ⊢
        have HS := HS_
        clear HS_
        refine pure_ (i := 0) (N := some 53) (v := ?_) (a' := ?_) #[true, false, false, false, false, false, false, false, false, false, false, false, false, false, false] rfl rfl (by kernel_rfl) (fun _ _ _ h => h) (Or.inl ⟨by rfl, ?_⟩) ?_ ?_
        rotate_left
        · intro w'
          go_simp
          with_reducible rfl
        rotate_left
        · simp only [Act.put, List.setIfInBounds_toArray, List.set_cons_zero, List.set_cons_succ, i64_w, i32_w]
          rfl
        refine pure_ (i := 2) (N := some 55) (v := ?_) (a' := ?_) #[true, false, true, false, false, false, false, false, false, false, false, false, false, false, false] rfl rfl (by kernel_rfl) (fun _ _ _ h => h) (Or.inl ⟨by rfl, ?_⟩) ?_ ?_
        rotate_left
        · intro w'
          go_simp
          with_reducible rfl
        rotate_left
        · simp only [Act.put, List.setIfInBounds_toArray, List.set_cons_zero, List.set_cons_succ, i64_w, i32_w]
          rfl
        refine pure_ (i := 7) (N := some 60) (v := ?_) (a' := ?_) #[true, false, true, false, false, false, false, true, false, false, false, false, false, false, false] rfl rfl (by kernel_rfl) (fun _ _ _ h => h) (Or.inl ⟨by rfl, ?_⟩) ?_ ?_
        rotate_left
        · intro w'
          go_simp
          with_reducible rfl
        rotate_left
        · simp only [Act.put, List.setIfInBounds_toArray, List.set_cons_zero, List.set_cons_succ, i64_w, i32_w]
          rfl
        refine take_ (i := 1) (N := some 54) (v := ?_) (a' := ?_) #[true, true, true, false, false, false, false, true, false, false, false, false, false, false, false] rfl rfl (by kernel_rfl) (fun _ _ _ h => h) (Or.inl ⟨by rfl, ?_⟩) hHeld ?_ ?_
        rotate_left
        · rintro w' hS'
          obtain ⟨s0, s1, s2⟩ := hS'
          go_simp
          with_reducible rfl
        rotate_left
        · simp only [Act.put, List.setIfInBounds_toArray, List.set_cons_zero, List.set_cons_succ, i64_w, i32_w]
          rfl
        refine take_ (i := 3) (N := some 56) (v := ?_) (a' := ?_) #[true, true, true, true, false, false, false, true, false, false, false, false, false, false, false] rfl rfl (by kernel_rfl) (fun _ _ _ h => h) (Or.inl ⟨by rfl, ?_⟩) hHeld ?_ ?_
        rotate_left
        · rintro w' hS'
          obtain ⟨s0, s1, s2⟩ := hS'
          go_simp
          with_reducible rfl
        rotate_left
        · simp only [Act.put, List.setIfInBounds_toArray, List.set_cons_zero, List.set_cons_succ, i64_w, i32_w]
          rfl
        refine take_ (i := 8) (N := some 61) (v := ?_) (a' := ?_) #[true, true, true, true, false, false, false, true, true, false, false, false, false, false, false] rfl rfl (by kernel_rfl) (fun _ _ _ h => h) (Or.inl ⟨by rfl, ?_⟩) hHeld ?_ ?_
        rotate_left
        · rintro w' hS'
          obtain ⟨s0, s1, s2⟩ := hS'
          go_simp
          with_reducible rfl
        rotate_left
        · simp only [Act.put, List.setIfInBounds_toArray, List.set_cons_zero, List.set_cons_succ, i64_w, i32_w]
          rfl
        refine two_ (i := 4) (j := 9) (Ni := some 57) (Nj := some 62) #[true, true, true, true, true, false, false, true, true, false, false, false, false, false, false] #[true, true, true, true, false, false, false, true, true, true, false, false, false, false, false] rfl rfl rfl rfl (by kernel_rfl) (by decide) (by decide) (fun K hK => ?_) (fun K hK => ?_)
        · refine goes_ Try.func108 (by kernel_rfl) rfl #[.int .i64 t384, .int .i64 a30] (by rfl) rfl rfl (by (try simp only [List.map_toArray, List.map_cons, List.map_nil]); first | done | rfl) ?_
          refine (ratio_Up.calls t384 a30 t409 _ ⟨Sep.start _⟩ HA410).mono ?_
          rintro e_ w437 ⟨rfl, hS⟩
          replace HS : Aside0 (Sep (fps []) w [b1 g31 a27 a28 a29 a30, b2 g34 0 0 0 0 0 0 0 0, b2 g191 t188 (wrap64 (a28 - 8)) (wrap64 ((wrap64 (a28 - 8)) + 1)) t357 t384 t368 0 0] w437) := ⟨HS.out.call hS⟩
          clear hS
          refine ⟨_, rfl, ?_⟩
          refine hK.out _ _ (⟨blk_cellv (HS.out.at2) 4 rfl, blk_cellv (HS.out.at0) 3 rfl, blk_cellv (HS.out.at2) 2 rfl⟩) (fun hHeld => ?_)
          clear hK K
          refine norm_ (a' := ?_) ?_ ?_
          rotate_left
          · show Act.put _ (some 57) _ = _
            simp only [Act.put, List.setIfInBounds_toArray, List.set_cons_zero, List.set_cons_succ, i64_w, i32_w]
            rfl
          refine two_ (i := 5) (j := 9) (Ni := some 58) (Nj := some 62) #[true, true, true, true, true, true, false, true, true, false, false, false, false, false, false] #[true, true, true, true, true, false, false, true, true, true, false, false, false, false, false] rfl rfl rfl rfl (by kernel_rfl) (by decide) (by decide) (fun K hK => ?_) (fun K hK => ?_)
          · refine slice_step (n := 2) (by rfl) (N := 58) rfl (cs := #[.int .i64 2, .int .i64 t409]) (t := 3) ?hr ?_
            case hr => first | (go_simp; done) | (go_simp; rfl)
            intro g438 hg w439 hbox hb
            replace HS : Aside0 (Sep (fps []) w [b1 g31 a27 a28 a29 a30, b2 g34 0 0 0 0 0 0 0 0, b2 g191 t188 (wrap64 (a28 - 8)) (wrap64 ((wrap64 (a28 - 8)) + 1)) t357 t384 t368 0 0, b3 g438 2 t409] w439) := ⟨HS.out.box hg hbox hb⟩
            clear hg hbox hb
            refine hK.out _ _ (⟨blk_cellv (HS.out.at2) 4 rfl, blk_cellv (HS.out.at0) 3 rfl, blk_cellv (HS.out.at2) 2 rfl⟩) (fun hHeld => ?_)
            clear hK K
            refine norm_ (a' := ?_) ?_ ?_
            rotate_left
            · show Act.put _ (some 58) _ = _
              simp only [Act.put, List.setIfInBounds_toArray, List.set_cons_zero, List.set_cons_succ, i64_w, i32_w]
              rfl
            refine two_ (i := 6) (j := 9) (Ni := some 59) (Nj := some 62) #[true, true, true, true, true, true, true, true, true, false, false, false, false, false, false] #[true, true, true, true, true, true, false, true, true, true, false, false, false, false, false] rfl rfl rfl rfl (by kernel_rfl) (by decide) (by decide) (fun K hK => ?_) (fun K hK => ?_)
            · refine goes_ Try.func107 (by kernel_rfl) rfl #[.slice (some ⟨g438, 0, none⟩) 2 2] (by rfl) rfl rfl (by (try simp only [List.map_toArray, List.map_cons, List.map_nil]); first | done | rfl) ?_
              refine (ratio_Mul.calls _ [2, t409] (some ⟨g438, 0, none⟩) 2 t415 _ ⟨Rd.lit (l := []) (xs := [2, t409]) HS.out 3 rfl (by simp)⟩ ⟨Sep.start _⟩ HA416).mono ?_
              rintro e_ w442 ⟨rfl, hS⟩
              replace HS : Aside0 (Sep (fps []) w [b1 g31 a27 a28 a29 a30, b2 g34 0 0 0 0 0 0 0 0, b2 g191 t188 (wrap64 (a28 - 8)) (wrap64 ((wrap64 (a28 - 8)) + 1)) t357 t384 t368 0 0, b3 g438 2 t409] w442) := ⟨HS.out.call hS⟩
              clear hS
              refine ⟨_, rfl, ?_⟩
              refine hK.out _ _ (⟨blk_cellv (HS.out.at2) 4 rfl, blk_cellv (HS.out.at0) 3 rfl, blk_cellv (HS.out.at2) 2 rfl⟩) (fun hHeld => ?_)
              clear hK K
              refine norm_ (a' := ?_) ?_ ?_
              rotate_left
              · show Act.put _ (some 59) _ = _
                simp only [Act.put, List.setIfInBounds_toArray, List.set_cons_zero, List.set_cons_succ, i64_w, i32_w]
                rfl
              refine one_ (i := 9) (N := some 62) #[true, true, true, true, true, true, true, true, true, true, false, false, false, false, false] rfl rfl (by kernel_rfl) (by decide) (fun K hK => ?_)
              refine slice_step (n := 2) (by rfl) (N := 62) rfl (cs := #[.int .i64 2, .int .i64 (wrap64 ((wrap64 (a28 - 8)) + 1))]) (t := 3) ?hr ?_
              case hr => first | (go_simp; done) | (go_simp; rfl)
              intro g443 hg w444 hbox hb
              replace HS : Aside0 (Sep (fps []) w [b1 g31 a27 a28 a29 a30, b2 g34 0 0 0 0 0 0 0 0, b2 g191 t188 (wrap64 (a28 - 8)) (wrap64 ((wrap64 (a28 - 8)) + 1)) t357 t384 t368 0 0, b3 g438 2 t409, b3 g443 2 (wrap64 ((wrap64 (a28 - 8)) + 1))] w444) := ⟨HS.out.box hg hbox hb⟩
              clear hg hbox hb
              refine hK.out _ _ (⟨blk_cellv (HS.out.at2) 4 rfl, blk_cellv (HS.out.at0) 3 rfl, blk_cellv (HS.out.at2) 2 rfl⟩) (fun hHeld => ?_)
              clear hK K
              refine norm_ (a' := ?_) ?_ ?_
              rotate_left
              · show Act.put _ (some 62) _ = _
                simp only [Act.put, List.setIfInBounds_toArray, List.set_cons_zero, List.set_cons_succ, i64_w, i32_w]
                rfl
              refine one_ (i := 10) (N := some 63) #[true, true, true, true, true, true, true, true, true, true, true, false, false, false, false] rfl rfl (by kernel_rfl) (by decide) (fun K hK => ?_)
              refine goes_ Try.func107 (by kernel_rfl) rfl #[.slice (some ⟨g443, 0, none⟩) 2 2] (by rfl) rfl rfl (by (try simp only [List.map_toArray, List.map_cons, List.map_nil]); first | done | rfl) ?_
              refine (ratio_Mul.calls _ [2, wrap64 ((wrap64 (a28 - 8)) + 1)] (some ⟨g443, 0, none⟩) 2 t421 _ ⟨Rd.lit (l := []) (xs := [2, wrap64 ((wrap64 (a28 - 8)) + 1)]) HS.out 4 rfl (by simp)⟩ ⟨Sep.start _⟩ HA422).mono ?_
              rintro e_ w447 ⟨rfl, hS⟩
              replace HS : Aside0 (Sep (fps []) w [b1 g31 a27 a28 a29 a30, b2 g34 0 0 0 0 0 0 0 0, b2 g191 t188 (wrap64 (a28 - 8)) (wrap64 ((wrap64 (a28 - 8)) + 1)) t357 t384 t368 0 0, b3 g438 2 t409, b3 g443 2 (wrap64 ((wrap64 (a28 - 8)) + 1))] w447) := ⟨HS.out.call hS⟩
              clear hS
              refine ⟨_, rfl, ?_⟩
              refine hK.out _ _ (⟨blk_cellv (HS.out.at2) 4 rfl, blk_cellv (HS.out.at0) 3 rfl, blk_cellv (HS.out.at2) 2 rfl⟩) (fun hHeld => ?_)
              clear hK K
              refine norm_ (a' := ?_) ?_ ?_
              rotate_left
              · show Act.put _ (some 63) _ = _
                simp only [Act.put, List.setIfInBounds_toArray, List.set_cons_zero, List.set_cons_succ, i64_w, i32_w]
                rfl
              refine one_ (i := 11) (N := some 64) #[true, true, true, true, true, true, true, true, true, true, true, true, false, false, false] rfl rfl (by kernel_rfl) (by decide) (fun K hK => ?_)
              refine slice_step (n := 2) (by rfl) (N := 64) rfl (cs := #[.int .i64 t415, .int .i64 t421]) (t := 3) ?hr ?_
              case hr => first | (go_simp; done) | (go_simp; rfl)
              intro g448 hg w449 hbox hb
              replace HS : Aside0 (Sep (fps []) w [b1 g31 a27 a28 a29 a30, b2 g34 0 0 0 0 0 0 0 0, b2 g191 t188 (wrap64 (a28 - 8)) (wrap64 ((wrap64 (a28 - 8)) + 1)) t357 t384 t368 0 0, b3 g438 2 t409, b3 g443 2 (wrap64 ((wrap64 (a28 - 8)) + 1)), b3 g448 t415 t421] w449) := ⟨HS.out.box hg hbox hb⟩
              clear hg hbox hb
              refine hK.out _ _ (⟨blk_cellv (HS.out.at2) 4 rfl, blk_cellv (HS.out.at0) 3 rfl, blk_cellv (HS.out.at2) 2 rfl⟩) (fun hHeld => ?_)
              clear hK K
              refine norm_ (a' := ?_) ?_ ?_
              rotate_left
              · show Act.put _ (some 64) _ = _
                simp only [Act.put, List.setIfInBounds_toArray, List.set_cons_zero, List.set_cons_succ, i64_w, i32_w]
                rfl
              refine one_ (i := 12) (N := some 65) #[true, true, true, true, true, true, true, true, true, true, true, true, true, false, false] rfl rfl (by kernel_rfl) (by decide) (fun K hK => ?_)
              refine goes_ Try.func106 (by kernel_rfl) rfl #[.slice (some ⟨g448, 0, none⟩) 2 2] (by rfl) rfl rfl (by (try simp only [List.map_toArray, List.map_cons, List.map_nil]); first | done | rfl) ?_
              refine (ratio_Add.calls _ [t415, t421] (some ⟨g448, 0, none⟩) 2 t427 _ ⟨Rd.lit (l := []) (xs := [t415, t421]) HS.out 5 rfl (by simp)⟩ ⟨Sep.start _⟩ HA428).mono ?_
              rintro e_ w452 ⟨rfl, hS⟩
              replace HS : Aside0 (Sep (fps []) w [b1 g31 a27 a28 a29 a30, b2 g34 0 0 0 0 0 0 0 0, b2 g191 t188 (wrap64 (a28 - 8)) (wrap64 ((wrap64 (a28 - 8)) + 1)) t357 t384 t368 0 0, b3 g438 2 t409, b3 g443 2 (wrap64 ((wrap64 (a28 - 8)) + 1)), b3 g448 t415 t421] w452) := ⟨HS.out.call hS⟩
              clear hS
              refine ⟨_, rfl, ?_⟩
              refine hK.out _ _ (⟨blk_cellv (HS.out.at2) 4 rfl, blk_cellv (HS.out.at0) 3 rfl, blk_cellv (HS.out.at2) 2 rfl⟩) (fun hHeld => ?_)
              clear hK K
              refine norm_ (a' := ?_) ?_ ?_
              rotate_left
              · show Act.put _ (some 65) _ = _
                simp only [Act.put, List.setIfInBounds_toArray, List.set_cons_zero, List.set_cons_succ, i64_w, i32_w]
                rfl
              refine pure_ (i := 13) (N := some 66) (v := ?_) (a' := ?_) #[true, true, true, true, true, true, true, true, true, true, true, true, true, true, false] rfl rfl (by kernel_rfl) (fun _ _ _ h => h) (Or.inl ⟨by rfl, ?_⟩) ?_ ?_
              rotate_left
              · intro w'
                go_simp
                with_reducible rfl
              rotate_left
              · simp only [Act.put, List.setIfInBounds_toArray, List.set_cons_zero, List.set_cons_succ, i64_w, i32_w]
                rfl
              refine one_ (i := 14) (N := none) #[true, true, true, true, true, true, true, true, true, true, true, true, true, true, true] rfl rfl (by kernel_rfl) (by decide) (fun K hK => ?_)
              have hc454 := blk_cellv (v := .int .i64 0) (HS.out.at2) 6 rfl
              have hz455 := blk_fz (HS.out.at2) 6
              refine store_step (w1 := (World.setCell w452 ⟨g191, 6, none⟩ (.int .i64 t427))) (by rfl) rfl ?hr ?_
              case hr => first | (go_simp; done) | (go_simp; rfl)
              clear hc454 hz455
              intro w453 hst
              have hq0 : Sep (fps []) w [b1 g31 a27 a28 a29 a30, b2 g34 0 0 0 0 0 0 0 0, b2 g191 t188 (wrap64 (a28 - 8)) (wrap64 ((wrap64 (a28 - 8)) + 1)) t357 t384 t368 t427 0, b3 g438 2 t409, b3 g443 2 (wrap64 ((wrap64 (a28 - 8)) + 1)), b3 g448 t415 t421] (World.setCell w452 ⟨g191, 6, none⟩ (.int .i64 t427)) := (HS.out).set1 (l1 := [b1 g31 a27 a28 a29 a30, b2 g34 0 0 0 0 0 0 0 0]) (l2 := [b3 g438 2 t409, b3 g443 2 (wrap64 ((wrap64 (a28 - 8)) + 1)), b3 g448 t415 t421]) 6 (.int .i64 t427)
              have HS_ : Aside0 (Sep (fps []) w [b1 g31 a27 a28 a29 a30, b2 g34 0 0 0 0 0 0 0 0, b2 g191 t188 (wrap64 (a28 - 8)) (wrap64 ((wrap64 (a28 - 8)) + 1)) t357 t384 t368 t427 0, b3 g438 2 t409, b3 g443 2 (wrap64 ((wrap64 (a28 - 8)) + 1)), b3 g448 t415 t421] w453) := ⟨by rw [hst]; exact hq0⟩
              clear hq0
              clear HS hst
              have HS := HS_
              clear HS_
              refine hK.out _ _ (⟨blk_cellv (HS.out.at2) 4 rfl, blk_cellv (HS.out.at0) 3 rfl, blk_cellv (HS.out.at2) 2 rfl⟩) (fun hHeld => ?_)
              clear hK K
              refine done_ (by kernel_rfl) ?_
              go_wp2_with fail
              go_meet
              case rel => exact ⟨g438, g443, g448, ⟨((((((HS.out).front 5 (by simp)).front 5 (by simp)).front 5 (by simp)).front 5 (by simp)).front 5 (by simp)).front 5 (by simp)⟩⟩
            · refine slice_step (n := 2) (by rfl) (N := 62) rfl (cs := #[.int .i64 2, .int .i64 (wrap64 ((wrap64 (a28 - 8)) + 1))]) (t := 3) ?hr ?_
              case hr => first | (go_simp; done) | (go_simp; rfl)
              intro g456 hg w457 hbox hb
              replace HS : Aside0 (Sep (fps []) w [b1 g31 a27 a28 a29 a30, b2 g34 0 0 0 0 0 0 0 0, b2 g191 t188 (wrap64 (a28 - 8)) (wrap64 ((wrap64 (a28 - 8)) + 1)) t357 t384 t368 0 0, b3 g438 2 t409, b3 g456 2 (wrap64 ((wrap64 (a28 - 8)) + 1))] w457) := ⟨HS.out.box hg hbox hb⟩
              clear hg hbox hb
              refine hK.out _ _ (⟨blk_cellv (HS.out.at2) 4 rfl, blk_cellv (HS.out.at0) 3 rfl, blk_cellv (HS.out.at2) 2 rfl⟩) (fun hHeld => ?_)
              clear hK K
              refine norm_ (a' := ?_) ?_ ?_
              rotate_left
              · show Act.put _ (some 62) _ = _
                simp only [Act.put, List.setIfInBounds_toArray, List.set_cons_zero, List.set_cons_succ, i64_w, i32_w]
                rfl
              refine one_ (i := 6) (N := some 59) #[true, true, true, true, true, true, true, true, true, true, false, false, false, false, false] rfl rfl (by kernel_rfl) (by decide) (fun K hK => ?_)
              refine goes_ Try.func107 (by kernel_rfl) rfl #[.slice (some ⟨g438, 0, none⟩) 2 2] (by rfl) rfl rfl (by (try simp only [List.map_toArray, List.map_cons, List.map_nil]); first | done | rfl) ?_
              refine (ratio_Mul.calls _ [2, t409] (some ⟨g438, 0, none⟩) 2 t415 _ ⟨Rd.lit (l := []) (xs := [2, t409]) HS.out 3 rfl (by simp)⟩ ⟨Sep.start _⟩ HA416).mono ?_
              rintro e_ w460 ⟨rfl, hS⟩
              replace HS : Aside0 (Sep (fps []) w [b1 g31 a27 a28 a29 a30, b2 g34 0 0 0 0 0 0 0 0, b2 g191 t188 (wrap64 (a28 - 8)) (wrap64 ((wrap64 (a28 - 8)) + 1)) t357 t384 t368 0 0, b3 g438 2 t409, b3 g456 2 (wrap64 ((wrap64 (a28 - 8)) + 1))] w460) := ⟨HS.out.call hS⟩
              clear hS
              refine ⟨_, rfl, ?_⟩
              refine hK.out _ _ (⟨blk_cellv (HS.out.at2) 4 rfl, blk_cellv (HS.out.at0) 3 rfl, blk_cellv (HS.out.at2) 2 rfl⟩) (fun hHeld => ?_)
              clear hK K
              refine norm_ (a' := ?_) ?_ ?_
              rotate_left
              · show Act.put _ (some 59) _ = _
                simp only [Act.put, List.setIfInBounds_toArray, List.set_cons_zero, List.set_cons_succ, i64_w, i32_w]
                rfl
              refine one_ (i := 10) (N := some 63) #[true, true, true, true, true, true, true, true, true, true, true, false, false, false, false] rfl rfl (by kernel_rfl) (by decide) (fun K hK => ?_)
              refine goes_ Try.func107 (by kernel_rfl) rfl #[.slice (some ⟨g456, 0, none⟩) 2 2] (by rfl) rfl rfl (by (try simp only [List.map_toArray, List.map_cons, List.map_nil]); first | done | rfl) ?_
              refine (ratio_Mul.calls _ [2, wrap64 ((wrap64 (a28 - 8)) + 1)] (some ⟨g456, 0, none⟩) 2 t421 _ ⟨Rd.lit (l := []) (xs := [2, wrap64 ((wrap64 (a28 - 8)) + 1)]) HS.out 4 rfl (by simp)⟩ ⟨Sep.start _⟩ HA422).mono ?_
              rintro e_ w462 ⟨rfl, hS⟩
              replace HS : Aside0 (Sep (fps []) w [b1 g31 a27 a28 a29 a30, b2 g34 0 0 0 0 0 0 0 0, b2 g191 t188 (wrap64 (a28 - 8)) (wrap64 ((wrap64 (a28 - 8)) + 1)) t357 t384 t368 0 0, b3 g438 2 t409, b3 g456 2 (wrap64 ((wrap64 (a28 - 8)) + 1))] w462) := ⟨HS.out.call hS⟩
              clear hS
              refine ⟨_, rfl, ?_⟩
              refine hK.out _ _ (⟨blk_cellv (HS.out.at2) 4 rfl, blk_cellv (HS.out.at0) 3 rfl, blk_cellv (HS.out.at2) 2 rfl⟩) (fun hHeld => ?_)
              clear hK K
              refine norm_ (a' := ?_) ?_ ?_
              rotate_left
              · show Act.put _ (some 63) _ = _
                simp only [Act.put, List.setIfInBounds_toArray, List.set_cons_zero, List.set_cons_succ, i64_w, i32_w]
                rfl
              refine one_ (i := 11) (N := some 64) #[true, true, true, true, true, true, true, true, true, true, true, true, false, false, false] rfl rfl (by kernel_rfl) (by decide) (fun K hK => ?_)
              refine slice_step (n := 2) (by rfl) (N := 64) rfl (cs := #[.int .i64 t415, .int .i64 t421]) (t := 3) ?hr ?_
              case hr => first | (go_simp; done) | (go_simp; rfl)
              intro g463 hg w464 hbox hb
              replace HS : Aside0 (Sep (fps []) w [b1 g31 a27 a28 a29 a30, b2 g34 0 0 0 0 0 0 0 0, b2 g191 t188 (wrap64 (a28 - 8)) (wrap64 ((wrap64 (a28 - 8)) + 1)) t357 t384 t368 0 0, b3 g438 2 t409, b3 g456 2 (wrap64 ((wrap64 (a28 - 8)) + 1)), b3 g463 t415 t421] w464) := ⟨HS.out.box hg hbox hb⟩
              clear hg hbox hb
              refine hK.out _ _ (⟨blk_cellv (HS.out.at2) 4 rfl, blk_cellv (HS.out.at0) 3 rfl, blk_cellv (HS.out.at2) 2 rfl⟩) (fun hHeld => ?_)
              clear hK K
              refine norm_ (a' := ?_) ?_ ?_
              rotate_left
              · show Act.put _ (some 64) _ = _
                simp only [Act.put, List.setIfInBounds_toArray, List.set_cons_zero, List.set_cons_succ, i64_w, i32_w]
                rfl
              refine one_ (i := 12) (N := some 65) #[true, true, true, true, true, true, true, true, true, true, true, true, true, false, false] rfl rfl (by kernel_rfl) (by decide) (fun K hK => ?_)
              refine goes_ Try.func106 (by kernel_rfl) rfl #[.slice (some ⟨g463, 0, none⟩) 2 2] (by rfl) rfl rfl (by (try simp only [List.map_toArray, List.map_cons, List.map_nil]); first | done | rfl) ?_
              refine (ratio_Add.calls _ [t415, t421] (some ⟨g463, 0, none⟩) 2 t427 _ ⟨Rd.lit (l := []) (xs := [t415, t421]) HS.out 5 rfl (by simp)⟩ ⟨Sep.start _⟩ HA428).mono ?_
              rintro e_ w467 ⟨rfl, hS⟩
              replace HS : Aside0 (Sep (fps []) w [b1 g31 a27 a28 a29 a30, b2 g34 0 0 0 0 0 0 0 0, b2 g191 t188 (wrap64 (a28 - 8)) (wrap64 ((wrap64 (a28 - 8)) + 1)) t357 t384 t368 0 0, b3 g438 2 t409, b3 g456 2 (wrap64 ((wrap64 (a28 - 8)) + 1)), b3 g463 t415 t421] w467) := ⟨HS.out.call hS⟩
              clear hS
              refine ⟨_, rfl, ?_⟩
              refine hK.out _ _ (⟨blk_cellv (HS.out.at2) 4 rfl, blk_cellv (HS.out.at0) 3 rfl, blk_cellv (HS.out.at2) 2 rfl⟩) (fun hHeld => ?_)
              clear hK K
              refine norm_ (a' := ?_) ?_ ?_
              rotate_left
              · show Act.put _ (some 65) _ = _
                simp only [Act.put, List.setIfInBounds_toArray, List.set_cons_zero, List.set_cons_succ, i64_w, i32_w]
                rfl
              refine pure_ (i := 13) (N := some 66) (v := ?_) (a' := ?_) #[true, true, true, true, true, true, true, true, true, true, true, true, true, true, false] rfl rfl (by kernel_rfl) (fun _ _ _ h => h) (Or.inl ⟨by rfl, ?_⟩) ?_ ?_
              rotate_left
              · intro w'
                go_simp
                with_reducible rfl
              rotate_left
              · simp only [Act.put, List.setIfInBounds_toArray, List.set_cons_zero, List.set_cons_succ, i64_w, i32_w]
                rfl
              refine one_ (i := 14) (N := none) #[true, true, true, true, true, true, true, true, true, true, true, true, true, true, true] rfl rfl (by kernel_rfl) (by decide) (fun K hK => ?_)
              have hc469 := blk_cellv (v := .int .i64 0) (HS.out.at2) 6 rfl
              have hz470 := blk_fz (HS.out.at2) 6
              refine store_step (w1 := (World.setCell w467 ⟨g191, 6, none⟩ (.int .i64 t427))) (by rfl) rfl ?hr ?_
              case hr => first | (go_simp; done) | (go_simp; rfl)
              clear hc469 hz470
              intro w468 hst
              have hq0 : Sep (fps []) w [b1 g31 a27 a28 a29 a30, b2 g34 0 0 0 0 0 0 0 0, b2 g191 t188 (wrap64 (a28 - 8)) (wrap64 ((wrap64 (a28 - 8)) + 1)) t357 t384 t368 t427 0, b3 g438 2 t409, b3 g456 2 (wrap64 ((wrap64 (a28 - 8)) + 1)), b3 g463 t415 t421] (World.setCell w467 ⟨g191, 6, none⟩ (.int .i64 t427)) := (HS.out).set1 (l1 := [b1 g31 a27 a28 a29 a30, b2 g34 0 0 0 0 0 0 0 0]) (l2 := [b3 g438 2 t409, b3 g456 2 (wrap64 ((wrap64 (a28 - 8)) + 1)), b3 g463 t415 t421]) 6 (.int .i64 t427)
              have HS_ : Aside0 (Sep (fps []) w [b1 g31 a27 a28 a29 a30, b2 g34 0 0 0 0 0 0 0 0, b2 g191 t188 (wrap64 (a28 - 8)) (wrap64 ((wrap64 (a28 - 8)) + 1)) t357 t384 t368 t427 0, b3 g438 2 t409, b3 g456 2 (wrap64 ((wrap64 (a28 - 8)) + 1)), b3 g463 t415 t421] w468) := ⟨by rw [hst]; exact hq0⟩
              clear hq0
              clear HS hst
              have HS := HS_
              clear HS_
              refine hK.out _ _ (⟨blk_cellv (HS.out.at2) 4 rfl, blk_cellv (HS.out.at0) 3 rfl, blk_cellv (HS.out.at2) 2 rfl⟩) (fun hHeld => ?_)
              clear hK K
              refine done_ (by kernel_rfl) ?_
              go_wp2_with fail
              go_meet
              case rel => exact ⟨g438, g456, g463, ⟨((((((HS.out).front 5 (by simp)).front 5 (by simp)).front 5 (by simp)).front 5 (by simp)).front 5 (by simp)).front 5 (by simp)⟩⟩
          · refine slice_step (n := 2) (by rfl) (N := 62) rfl (cs := #[.int .i64 2, .int .i64 (wrap64 ((wrap64 (a28 - 8)) + 1))]) (t := 3) ?hr ?_
            case hr => first | (go_simp; done) | (go_simp; rfl)
            intro g471 hg w472 hbox hb
            replace HS : Aside0 (Sep (fps []) w [b1 g31 a27 a28 a29 a30, b2 g34 0 0 0 0 0 0 0 0, b2 g191 t188 (wrap64 (a28 - 8)) (wrap64 ((wrap64 (a28 - 8)) + 1)) t357 t384 t368 0 0, b3 g471 2 (wrap64 ((wrap64 (a28 - 8)) + 1))] w472) := ⟨HS.out.box hg hbox hb⟩
            clear hg hbox hb
            refine hK.out _ _ (⟨blk_cellv (HS.out.at2) 4 rfl, blk_cellv (HS.out.at0) 3 rfl, blk_cellv (HS.out.at2) 2 rfl⟩) (fun hHeld => ?_)
            clear hK K
            refine norm_ (a' := ?_) ?_ ?_
            rotate_left
            · show Act.put _ (some 62) _ = _
              simp only [Act.put, List.setIfInBounds_toArray, List.set_cons_zero, List.set_cons_succ, i64_w, i32_w]
              rfl
            refine one_ (i := 5) (N := some 58) #[true, true, true, true, true, true, false, true, true, true, false, false, false, false, false] rfl rfl (by kernel_rfl) (by decide) (fun K hK => ?_)
            refine slice_step (n := 2) (by rfl) (N := 58) rfl (cs := #[.int .i64 2, .int .i64 t409]) (t := 3) ?hr ?_
            case hr => first | (go_simp; done) | (go_simp; rfl)
            intro g474 hg w475 hbox hb
            replace HS : Aside0 (Sep (fps []) w [b1 g31 a27 a28 a29 a30, b2 g34 0 0 0 0 0 0 0 0, b2 g191 t188 (wrap64 (a28 - 8)) (wrap64 ((wrap64 (a28 - 8)) + 1)) t357 t384 t368 0 0, b3 g471 2 (wrap64 ((wrap64 (a28 - 8)) + 1)), b3 g474 2 t409] w475) := ⟨HS.out.box hg hbox hb⟩
            clear hg hbox hb
            refine hK.out _ _ (⟨blk_cellv (HS.out.at2) 4 rfl, blk_cellv (HS.out.at0) 3 rfl, blk_cellv (HS.out.at2) 2 rfl⟩) (fun hHeld => ?_)
            clear hK K
            refine norm_ (a' := ?_) ?_ ?_
            rotate_left
            · show Act.put _ (some 58) _ = _
              simp only [Act.put, List.setIfInBounds_toArray, List.set_cons_zero, List.set_cons_succ, i64_w, i32_w]
              rfl
            refine one_ (i := 6) (N := some 59) #[true, true, true, true, true, true, true, true, true, true, false, false, false, false, false] rfl rfl (by kernel_rfl) (by decide) (fun K hK => ?_)
            refine goes_ Try.func107 (by kernel_rfl) rfl #[.slice (some ⟨g474, 0, none⟩) 2 2] (by rfl) rfl rfl (by (try simp only [List.map_toArray, List.map_cons, List.map_nil]); first | done | rfl) ?_
            refine (ratio_Mul.calls _ [2, t409] (some ⟨g474, 0, none⟩) 2 t415 _ ⟨Rd.lit (l := []) (xs := [2, t409]) HS.out 4 rfl (by simp)⟩ ⟨Sep.start _⟩ HA416).mono ?_
            rintro e_ w478 ⟨rfl, hS⟩
            replace HS : Aside0 (Sep (fps []) w [b1 g31 a27 a28 a29 a30, b2 g34 0 0 0 0 0 0 0 0, b2 g191 t188 (wrap64 (a28 - 8)) (wrap64 ((wrap64 (a28 - 8)) + 1)) t357 t384 t368 0 0, b3 g471 2 (wrap64 ((wrap64 (a28 - 8)) + 1)), b3 g474 2 t409] w478) := ⟨HS.out.call hS⟩
            clear hS
            refine ⟨_, rfl, ?_⟩
            refine hK.out _ _ (⟨blk_cellv (HS.out.at2) 4 rfl, blk_cellv (HS.out.at0) 3 rfl, blk_cellv (HS.out.at2) 2 rfl⟩) (fun hHeld => ?_)
            clear hK K
            refine norm_ (a' := ?_) ?_ ?_
            rotate_left
            · show Act.put _ (some 59) _ = _
              simp only [Act.put, List.setIfInBounds_toArray, List.set_cons_zero, List.set_cons_succ, i64_w, i32_w]
              rfl
            refine one_ (i := 10) (N := some 63) #[true, true, true, true, true, true, true, true, true, true, true, false, false, false, false] rfl rfl (by kernel_rfl) (by decide) (fun K hK => ?_)
            refine goes_ Try.func107 (by kernel_rfl) rfl #[.slice (some ⟨g471, 0, none⟩) 2 2] (by rfl) rfl rfl (by (try simp only [List.map_toArray, List.map_cons, List.map_nil]); first | done | rfl) ?_
            refine (ratio_Mul.calls _ [2, wrap64 ((wrap64 (a28 - 8)) + 1)] (some ⟨g471, 0, none⟩) 2 t421 _ ⟨Rd.lit (l := []) (xs := [2, wrap64 ((wrap64 (a28 - 8)) + 1)]) HS.out 3 rfl (by simp)⟩ ⟨Sep.start _⟩ HA422).mono ?_
            rintro e_ w480 ⟨rfl, hS⟩
            replace HS : Aside0 (Sep (fps []) w [b1 g31 a27 a28 a29 a30, b2 g34 0 0 0 0 0 0 0 0, b2 g191 t188 (wrap64 (a28 - 8)) (wrap64 ((wrap64 (a28 - 8)) + 1)) t357 t384 t368 0 0, b3 g471 2 (wrap64 ((wrap64 (a28 - 8)) + 1)), b3 g474 2 t409] w480) := ⟨HS.out.call hS⟩
            clear hS
            refine ⟨_, rfl, ?_⟩
            refine hK.out _ _ (⟨blk_cellv (HS.out.at2) 4 rfl, blk_cellv (HS.out.at0) 3 rfl, blk_cellv (HS.out.at2) 2 rfl⟩) (fun hHeld => ?_)
            clear hK K
            refine norm_ (a' := ?_) ?_ ?_
            rotate_left
            · show Act.put _ (some 63) _ = _
              simp only [Act.put, List.setIfInBounds_toArray, List.set_cons_zero, List.set_cons_succ, i64_w, i32_w]
              rfl
            refine one_ (i := 11) (N := some 64) #[true, true, true, true, true, true, true, true, true, true, true, true, false, false, false] rfl rfl (by kernel_rfl) (by decide) (fun K hK => ?_)
            refine slice_step (n := 2) (by rfl) (N := 64) rfl (cs := #[.int .i64 t415, .int .i64 t421]) (t := 3) ?hr ?_
            case hr => first | (go_simp; done) | (go_simp; rfl)
            intro g481 hg w482 hbox hb
            replace HS : Aside0 (Sep (fps []) w [b1 g31 a27 a28 a29 a30, b2 g34 0 0 0 0 0 0 0 0, b2 g191 t188 (wrap64 (a28 - 8)) (wrap64 ((wrap64 (a28 - 8)) + 1)) t357 t384 t368 0 0, b3 g471 2 (wrap64 ((wrap64 (a28 - 8)) + 1)), b3 g474 2 t409, b3 g481 t415 t421] w482) := ⟨HS.out.box hg hbox hb⟩
            clear hg hbox hb
            refine hK.out _ _ (⟨blk_cellv (HS.out.at2) 4 rfl, blk_cellv (HS.out.at0) 3 rfl, blk_cellv (HS.out.at2) 2 rfl⟩) (fun hHeld => ?_)
            clear hK K
            refine norm_ (a' := ?_) ?_ ?_
            rotate_left
            · show Act.put _ (some 64) _ = _
              simp only [Act.put, List.setIfInBounds_toArray, List.set_cons_zero, List.set_cons_succ, i64_w, i32_w]
              rfl
            refine one_ (i := 12) (N := some 65) #[true, true, true, true, true, true, true, true, true, true, true, true, true, false, false] rfl rfl (by kernel_rfl) (by decide) (fun K hK => ?_)
            refine goes_ Try.func106 (by kernel_rfl) rfl #[.slice (some ⟨g481, 0, none⟩) 2 2] (by rfl) rfl rfl (by (try simp only [List.map_toArray, List.map_cons, List.map_nil]); first | done | rfl) ?_
            refine (ratio_Add.calls _ [t415, t421] (some ⟨g481, 0, none⟩) 2 t427 _ ⟨Rd.lit (l := []) (xs := [t415, t421]) HS.out 5 rfl (by simp)⟩ ⟨Sep.start _⟩ HA428).mono ?_
            rintro e_ w485 ⟨rfl, hS⟩
            replace HS : Aside0 (Sep (fps []) w [b1 g31 a27 a28 a29 a30, b2 g34 0 0 0 0 0 0 0 0, b2 g191 t188 (wrap64 (a28 - 8)) (wrap64 ((wrap64 (a28 - 8)) + 1)) t357 t384 t368 0 0, b3 g471 2 (wrap64 ((wrap64 (a28 - 8)) + 1)), b3 g474 2 t409, b3 g481 t415 t421] w485) := ⟨HS.out.call hS⟩
            clear hS
            refine ⟨_, rfl, ?_⟩
            refine hK.out _ _ (⟨blk_cellv (HS.out.at2) 4 rfl, blk_cellv (HS.out.at0) 3 rfl, blk_cellv (HS.out.at2) 2 rfl⟩) (fun hHeld => ?_)
            clear hK K
            refine norm_ (a' := ?_) ?_ ?_
            rotate_left
            · show Act.put _ (some 65) _ = _
              simp only [Act.put, List.setIfInBounds_toArray, List.set_cons_zero, List.set_cons_succ, i64_w, i32_w]
              rfl
            refine pure_ (i := 13) (N := some 66) (v := ?_) (a' := ?_) #[true, true, true, true, true, true, true, true, true, true, true, true, true, true, false] rfl rfl (by kernel_rfl) (fun _ _ _ h => h) (Or.inl ⟨by rfl, ?_⟩) ?_ ?_
            rotate_left
            · intro w'
              go_simp
              with_reducible rfl
            rotate_left
            · simp only [Act.put, List.setIfInBounds_toArray, List.set_cons_zero, List.set_cons_succ, i64_w, i32_w]
              rfl
            refine one_ (i := 14) (N := none) #[true, true, true, true, true, true, true, true, true, true, true, true, true, true, true] rfl rfl (by kernel_rfl) (by decide) (fun K hK => ?_)
            have hc487 := blk_cellv (v := .int .i64 0) (HS.out.at2) 6 rfl
            have hz488 := blk_fz (HS.out.at2) 6
            refine store_step (w1 := (World.setCell w485 ⟨g191, 6, none⟩ (.int .i64 t427))) (by rfl) rfl ?hr ?_
            case hr => first | (go_simp; done) | (go_simp; rfl)
            clear hc487 hz488
            intro w486 hst
            have hq0 : Sep (fps []) w [b1 g31 a27 a28 a29 a30, b2 g34 0 0 0 0 0 0 0 0, b2 g191 t188 (wrap64 (a28 - 8)) (wrap64 ((wrap64 (a28 - 8)) + 1)) t357 t384 t368 t427 0, b3 g471 2 (wrap64 ((wrap64 (a28 - 8)) + 1)), b3 g474 2 t409, b3 g481 t415 t421] (World.setCell w485 ⟨g191, 6, none⟩ (.int .i64 t427)) := (HS.out).set1 (l1 := [b1 g31 a27 a28 a29 a30, b2 g34 0 0 0 0 0 0 0 0]) (l2 := [b3 g471 2 (wrap64 ((wrap64 (a28 - 8)) + 1)), b3 g474 2 t409, b3 g481 t415 t421]) 6 (.int .i64 t427)
            have HS_ : Aside0 (Sep (fps []) w [b1 g31 a27 a28 a29 a30, b2 g34 0 0 0 0 0 0 0 0, b2 g191 t188 (wrap64 (a28 - 8)) (wrap64 ((wrap64 (a28 - 8)) + 1)) t357 t384 t368 t427 0, b3 g471 2 (wrap64 ((wrap64 (a28 - 8)) + 1)), b3 g474 2 t409, b3 g481 t415 t421] w486) := ⟨by rw [hst]; exact hq0⟩
            clear hq0
            clear HS hst
            have HS := HS_
            clear HS_
            refine hK.out _ _ (⟨blk_cellv (HS.out.at2) 4 rfl, blk_cellv (HS.out.at0) 3 rfl, blk_cellv (HS.out.at2) 2 rfl⟩) (fun hHeld => ?_)
            clear hK K
            refine done_ (by kernel_rfl) ?_
            go_wp2_with fail
            go_meet
            case rel => exact ⟨g474, g471, g481, ⟨((((((HS.out).front 5 (by simp)).front 4 (by simp)).front 5 (by simp)).front 5 (by simp)).front 5 (by simp)).front 5 (by simp)⟩⟩
        · refine slice_step (n := 2) (by rfl) (N := 62) rfl (cs := #[.int .i64 2, .int .i64 (wrap64 ((wrap64 (a28 - 8)) + 1))]) (t := 3) ?hr ?_
          case hr => first | (go_simp; done) | (go_simp; rfl)
          intro g489 hg w490 hbox hb
          replace HS : Aside0 (Sep (fps []) w [b1 g31 a27 a28 a29 a30, b2 g34 0 0 0 0 0 0 0 0, b2 g191 t188 (wrap64 (a28 - 8)) (wrap64 ((wrap64 (a28 - 8)) + 1)) t357 t384 t368 0 0, b3 g489 2 (wrap64 ((wrap64 (a28 - 8)) + 1))] w490) := ⟨HS.out.box hg hbox hb⟩
          clear hg hbox hb
          refine hK.out _ _ (⟨blk_cellv (HS.out.at2) 4 rfl, blk_cellv (HS.out.at0) 3 rfl, blk_cellv (HS.out.at2) 2 rfl⟩) (fun hHeld => ?_)
          clear hK K
          refine norm_ (a' := ?_) ?_ ?_
          rotate_left
          · show Act.put _ (some 62) _ = _
            simp only [Act.put, List.setIfInBounds_toArray, List.set_cons_zero, List.set_cons_succ, i64_w, i32_w]
            rfl
          refine one_ (i := 4) (N := some 57) #[true, true, true, true, true, false, false, true, true, true, false, false, false, false, false] rfl rfl (by kernel_rfl) (by decide) (fun K hK => ?_)
          refine goes_ Try.func108 (by kernel_rfl) rfl #[.int .i64 t384, .int .i64 a30] (by rfl) rfl rfl (by (try simp only [List.map_toArray, List.map_cons, List.map_nil]); first | done | rfl) ?_
          refine (ratio_Up.calls t384 a30 t409 _ ⟨Sep.start _⟩ HA410).mono ?_
          rintro e_ w493 ⟨rfl, hS⟩
          replace HS : Aside0 (Sep (fps []) w [b1 g31 a27 a28 a29 a30, b2 g34 0 0 0 0 0 0 0 0, b2 g191 t188 (wrap64 (a28 - 8)) (wrap64 ((wrap64 (a28 - 8)) + 1)) t357 t384 t368 0 0, b3 g489 2 (wrap64 ((wrap64 (a28 - 8)) + 1))] w493) := ⟨HS.out.call hS⟩
          clear hS
          refine ⟨_, rfl, ?_⟩
          refine hK.out _ _ (⟨blk_cellv (HS.out.at2) 4 rfl, blk_cellv (HS.out.at0) 3 rfl, blk_cellv (HS.out.at2) 2 rfl⟩) (fun hHeld => ?_)
          clear hK K
          refine norm_ (a' := ?_) ?_ ?_
          rotate_left
          · show Act.put _ (some 57) _ = _
            simp only [Act.put, List.setIfInBounds_toArray, List.set_cons_zero, List.set_cons_succ, i64_w, i32_w]
            rfl
          refine one_ (i := 5) (N := some 58) #[true, true, true, true, true, true, false, true, true, true, false, false, false, false, false] rfl rfl (by kernel_rfl) (by decide) (fun K hK => ?_)
          refine slice_step (n := 2) (by rfl) (N := 58) rfl (cs := #[.int .i64 2, .int .i64 t409]) (t := 3) ?hr ?_
          case hr => first | (go_simp; done) | (go_simp; rfl)
          intro g494 hg w495 hbox hb
          replace HS : Aside0 (Sep (fps []) w [b1 g31 a27 a28 a29 a30, b2 g34 0 0 0 0 0 0 0 0, b2 g191 t188 (wrap64 (a28 - 8)) (wrap64 ((wrap64 (a28 - 8)) + 1)) t357 t384 t368 0 0, b3 g489 2 (wrap64 ((wrap64 (a28 - 8)) + 1)), b3 g494 2 t409] w495) := ⟨HS.out.box hg hbox hb⟩
          clear hg hbox hb
          refine hK.out _ _ (⟨blk_cellv (HS.out.at2) 4 rfl, blk_cellv (HS.out.at0) 3 rfl, blk_cellv (HS.out.at2) 2 rfl⟩) (fun hHeld => ?_)
          clear hK K
          refine norm_ (a' := ?_) ?_ ?_
          rotate_left
          · show Act.put _ (some 58) _ = _
            simp only [Act.put, List.setIfInBounds_toArray, List.set_cons_zero, List.set_cons_succ, i64_w, i32_w]
            rfl
          refine one_ (i := 6) (N := some 59) #[true, true, true, true, true, true, true, true, true, true, false, false, false, false, false] rfl rfl (by kernel_rfl) (by decide) (fun K hK => ?_)
          refine goes_ Try.func107 (by kernel_rfl) rfl #[.slice (some ⟨g494, 0, none⟩) 2 2] (by rfl) rfl rfl (by (try simp only [List.map_toArray, List.map_cons, List.map_nil]); first | done | rfl) ?_
          refine (ratio_Mul.calls _ [2, t409] (some ⟨g494, 0, none⟩) 2 t415 _ ⟨Rd.lit (l := []) (xs := [2, t409]) HS.out 4 rfl (by simp)⟩ ⟨Sep.start _⟩ HA416).mono ?_
          rintro e_ w498 ⟨rfl, hS⟩
          replace HS : Aside0 (Sep (fps []) w [b1 g31 a27 a28 a29 a30, b2 g34 0 0 0 0 0 0 0 0, b2 g191 t188 (wrap64 (a28 - 8)) (wrap64 ((wrap64 (a28 - 8)) + 1)) t357 t384 t368 0 0, b3 g489 2 (wrap64 ((wrap64 (a28 - 8)) + 1)), b3 g494 2 t409] w498) := ⟨HS.out.call hS⟩
          clear hS
          refine ⟨_, rfl, ?_⟩
          refine hK.out _ _ (⟨blk_cellv (HS.out.at2) 4 rfl, blk_cellv (HS.out.at0) 3 rfl, blk_cellv (HS.out.at2) 2 rfl⟩) (fun hHeld => ?_)
          clear hK K
          refine norm_ (a' := ?_) ?_ ?_
          rotate_left
          · show Act.put _ (some 59) _ = _
            simp only [Act.put, List.setIfInBounds_toArray, List.set_cons_zero, List.set_cons_succ, i64_w, i32_w]
            rfl
          refine one_ (i := 10) (N := some 63) #[true, true, true, true, true, true, true, true, true, true, true, false, false, false, false] rfl rfl (by kernel_rfl) (by decide) (fun K hK => ?_)
          refine goes_ Try.func107 (by kernel_rfl) rfl #[.slice (some ⟨g489, 0, none⟩) 2 2] (by rfl) rfl rfl (by (try simp only [List.map_toArray, List.map_cons, List.map_nil]); first | done | rfl) ?_
          refine (ratio_Mul.calls _ [2, wrap64 ((wrap64 (a28 - 8)) + 1)] (some ⟨g489, 0, none⟩) 2 t421 _ ⟨Rd.lit (l := []) (xs := [2, wrap64 ((wrap64 (a28 - 8)) + 1)]) HS.out 3 rfl (by simp)⟩ ⟨Sep.start _⟩ HA422).mono ?_
          rintro e_ w500 ⟨rfl, hS⟩
          replace HS : Aside0 (Sep (fps []) w [b1 g31 a27 a28 a29 a30, b2 g34 0 0 0 0 0 0 0 0, b2 g191 t188 (wrap64 (a28 - 8)) (wrap64 ((wrap64 (a28 - 8)) + 1)) t357 t384 t368 0 0, b3 g489 2 (wrap64 ((wrap64 (a28 - 8)) + 1)), b3 g494 2 t409] w500) := ⟨HS.out.call hS⟩
          clear hS
          refine ⟨_, rfl, ?_⟩
          refine hK.out _ _ (⟨blk_cellv (HS.out.at2) 4 rfl, blk_cellv (HS.out.at0) 3 rfl, blk_cellv (HS.out.at2) 2 rfl⟩) (fun hHeld => ?_)
          clear hK K
          refine norm_ (a' := ?_) ?_ ?_
          rotate_left
          · show Act.put _ (some 63) _ = _
            simp only [Act.put, List.setIfInBounds_toArray, List.set_cons_zero, List.set_cons_succ, i64_w, i32_w]
            rfl
          refine one_ (i := 11) (N := some 64) #[true, true, true, true, true, true, true, true, true, true, true, true, false, false, false] rfl rfl (by kernel_rfl) (by decide) (fun K hK => ?_)
          refine slice_step (n := 2) (by rfl) (N := 64) rfl (cs := #[.int .i64 t415, .int .i64 t421]) (t := 3) ?hr ?_
          case hr => first | (go_simp; done) | (go_simp; rfl)
          intro g501 hg w502 hbox hb
          replace HS : Aside0 (Sep (fps []) w [b1 g31 a27 a28 a29 a30, b2 g34 0 0 0 0 0 0 0 0, b2 g191 t188 (wrap64 (a28 - 8)) (wrap64 ((wrap64 (a28 - 8)) + 1)) t357 t384 t368 0 0, b3 g489 2 (wrap64 ((wrap64 (a28 - 8)) + 1)), b3 g494 2 t409, b3 g501 t415 t421] w502) := ⟨HS.out.box hg hbox hb⟩
          clear hg hbox hb
          refine hK.out _ _ (⟨blk_cellv (HS.out.at2) 4 rfl, blk_cellv (HS.out.at0) 3 rfl, blk_cellv (HS.out.at2) 2 rfl⟩) (fun hHeld => ?_)
          clear hK K
          refine norm_ (a' := ?_) ?_ ?_
          rotate_left
          · show Act.put _ (some 64) _ = _
            simp only [Act.put, List.setIfInBounds_toArray, List.set_cons_zero, List.set_cons_succ, i64_w, i32_w]
            rfl
          refine one_ (i := 12) (N := some 65) #[true, true, true, true, true, true, true, true, true, true, true, true, true, false, false] rfl rfl (by kernel_rfl) (by decide) (fun K hK => ?_)
          refine goes_ Try.func106 (by kernel_rfl) rfl #[.slice (some ⟨g501, 0, none⟩) 2 2] (by rfl) rfl rfl (by (try simp only [List.map_toArray, List.map_cons, List.map_nil]); first | done | rfl) ?_
          refine (ratio_Add.calls _ [t415, t421] (some ⟨g501, 0, none⟩) 2 t427 _ ⟨Rd.lit (l := []) (xs := [t415, t421]) HS.out 5 rfl (by simp)⟩ ⟨Sep.start _⟩ HA428).mono ?_
          rintro e_ w505 ⟨rfl, hS⟩
          replace HS : Aside0 (Sep (fps []) w [b1 g31 a27 a28 a29 a30, b2 g34 0 0 0 0 0 0 0 0, b2 g191 t188 (wrap64 (a28 - 8)) (wrap64 ((wrap64 (a28 - 8)) + 1)) t357 t384 t368 0 0, b3 g489 2 (wrap64 ((wrap64 (a28 - 8)) + 1)), b3 g494 2 t409, b3 g501 t415 t421] w505) := ⟨HS.out.call hS⟩
          clear hS
          refine ⟨_, rfl, ?_⟩
          refine hK.out _ _ (⟨blk_cellv (HS.out.at2) 4 rfl, blk_cellv (HS.out.at0) 3 rfl, blk_cellv (HS.out.at2) 2 rfl⟩) (fun hHeld => ?_)
          clear hK K
          refine norm_ (a' := ?_) ?_ ?_
          rotate_left
          · show Act.put _ (some 65) _ = _
            simp only [Act.put, List.setIfInBounds_toArray, List.set_cons_zero, List.set_cons_succ, i64_w, i32_w]
            rfl
          refine pure_ (i := 13) (N := some 66) (v := ?_) (a' := ?_) #[true, true, true, true, true, true, true, true, true, true, true, true, true, true, false] rfl rfl (by kernel_rfl) (fun _ _ _ h => h) (Or.inl ⟨by rfl, ?_⟩) ?_ ?_
          rotate_left
          · intro w'
            go_simp
            with_reducible rfl
          rotate_left
          · simp only [Act.put, List.setIfInBounds_toArray, List.set_cons_zero, List.set_cons_succ, i64_w, i32_w]
            rfl
          refine one_ (i := 14) (N := none) #[true, true, true, true, true, true, true, true, true, true, true, true, true, true, true] rfl rfl (by kernel_rfl) (by decide) (fun K hK => ?_)
          have hc507 := blk_cellv (v := .int .i64 0) (HS.out.at2) 6 rfl
          have hz508 := blk_fz (HS.out.at2) 6
          refine store_step (w1 := (World.setCell w505 ⟨g191, 6, none⟩ (.int .i64 t427))) (by rfl) rfl ?hr ?_
          case hr => first | (go_simp; done) | (go_simp; rfl)
          clear hc507 hz508
          intro w506 hst
          have hq0 : Sep (fps []) w [b1 g31 a27 a28 a29 a30, b2 g34 0 0 0 0 0 0 0 0, b2 g191 t188 (wrap64 (a28 - 8)) (wrap64 ((wrap64 (a28 - 8)) + 1)) t357 t384 t368 t427 0, b3 g489 2 (wrap64 ((wrap64 (a28 - 8)) + 1)), b3 g494 2 t409, b3 g501 t415 t421] (World.setCell w505 ⟨g191, 6, none⟩ (.int .i64 t427)) := (HS.out).set1 (l1 := [b1 g31 a27 a28 a29 a30, b2 g34 0 0 0 0 0 0 0 0]) (l2 := [b3 g489 2 (wrap64 ((wrap64 (a28 - 8)) + 1)), b3 g494 2 t409, b3 g501 t415 t421]) 6 (.int .i64 t427)
          have HS_ : Aside0 (Sep (fps []) w [b1 g31 a27 a28 a29 a30, b2 g34 0 0 0 0 0 0 0 0, b2 g191 t188 (wrap64 (a28 - 8)) (wrap64 ((wrap64 (a28 - 8)) + 1)) t357 t384 t368 t427 0, b3 g489 2 (wrap64 ((wrap64 (a28 - 8)) + 1)), b3 g494 2 t409, b3 g501 t415 t421] w506) := ⟨by rw [hst]; exact hq0⟩
          clear hq0
          clear HS hst
          have HS := HS_
          clear HS_
          refine hK.out _ _ (⟨blk_cellv (HS.out.at2) 4 rfl, blk_cellv (HS.out.at0) 3 rfl, blk_cellv (HS.out.at2) 2 rfl⟩) (fun hHeld => ?_)
          clear hK K
          refine done_ (by kernel_rfl) ?_
          go_wp2_with fail
          go_meet
          case rel => exact ⟨g494, g489, g501, ⟨((((((HS.out).front 5 (by simp)).front 4 (by simp)).front 5 (by simp)).front 5 (by simp)).front 5 (by simp)).front 5 (by simp)⟩⟩
      case rest =>
        clear HS
        obtain ⟨g412, g418, g424, HS⟩ := hcut
        obtain ⟨w433, rfl⟩ : ∃ x : World, x = wc := ⟨_, rfl⟩
        replace HS : Aside0 (Sep (fps []) w [b1 g31 a27 a28 a29 a30, b2 g34 0 0 0 0 0 0 0 0, b2 g191 t188 (wrap64 (a28 - 8)) (wrap64 ((wrap64 (a28 - 8)) + 1)) t357 t384 t368 t427 0] w433) := ⟨HS.out.sub (.cons_cons _ (.cons_cons _ (.cons_cons _ (.cons _ (.cons _ (.cons _ .slnil))))))⟩
        go_wp2_with fail
        refine start_ (n := 15) (S := (fun w' => w'.cell? ⟨g191, 4, none⟩ = some (.int .i64 t384) ∧ w'.cell? ⟨g191, 5, none⟩ = some (.int .i64 t368) ∧ w'.cell? ⟨g31, 3, none⟩ = some (.int .i64 a30))) (ds := []) #[false, false, false, false, false, false, false, false, false, false, false, false, false, false, false] (by kernel_rfl) rfl rfl (⟨blk_cellv ((HS.out.drew).at2) 4 rfl, blk_cellv ((HS.out.drew).at2) 5 rfl, blk_cellv ((HS.out.drew).at0) 3 rfl⟩) (fun hHeld => ?_)
        have HS_ := Aside0.mk HS.out.drew
        clear HS
        generalize World.drew _ = w510 at HS_ hHeld ⊢
        have HS := HS_
        clear HS_
        refine pure_ (i := 0) (N := some 67) (v := ?_) (a' := ?_) #[true, false, false, false, false, false, false, false, false, false, false, false, false, false, false] rfl rfl (by kernel_rfl) (fun _ _ _ h => h) (Or.inl ⟨by rfl, ?_⟩) ?_ ?_
        rotate_left
        · intro w'
          go_simp
          with_reducible rfl
        rotate_left
        · simp only [Act.put, List.setIfInBounds_toArray, List.set_cons_zero, List.set_cons_succ, i64_w, i32_w]
          rfl
        refine pure_ (i := 2) (N := some 69) (v := ?_) (a' := ?_) #[true, false, true, false, false, false, false, false, false, false, false, false, false, false, false] rfl rfl (by kernel_rfl) (fun _ _ _ h => h) (Or.inl ⟨by rfl, ?_⟩) ?_ ?_
        rotate_left
        · intro w'
          go_simp
          with_reducible rfl
        rotate_left
        · simp only [Act.put, List.setIfInBounds_toArray, List.set_cons_zero, List.set_cons_succ, i64_w, i32_w]
          rfl
        refine pure_ (i := 4) (N := some 71) (v := ?_) (a' := ?_) #[true, false, true, false, true, false, false, false, false, false, false, false, false, false, false] rfl rfl (by kernel_rfl) (fun _ _ _ h => h) (Or.inl ⟨by rfl, ?_⟩) ?_ ?_
        rotate_left
        · intro w'
          go_simp
          with_reducible rfl
        rotate_left
        · simp only [Act.put, List.setIfInBounds_toArray, List.set_cons_zero, List.set_cons_succ, i64_w, i32_w]
          rfl
        refine pure_ (i := 8) (N := some 75) (v := ?_) (a' := ?_) #[true, false, true, false, true, false, false, false, true, false, false, false, false, false, false] rfl rfl (by kernel_rfl) (fun _ _ _ h => h) (Or.inl ⟨by rfl, ?_⟩) ?_ ?_
        rotate_left
        · intro w'
          go_simp
          with_reducible rfl
        rotate_left
        · simp only [Act.put, List.setIfInBounds_toArray, List.set_cons_zero, List.set_cons_succ, i64_w, i32_w]
          rfl
        refine take_ (i := 1) (N := some 68) (v := ?_) (a' := ?_) #[true, true, true, false, true, false, false, false, true, false, false, false, false, false, false] rfl rfl (by kernel_rfl) (fun _ _ _ h => h) (Or.inl ⟨by rfl, ?_⟩) hHeld ?_ ?_
        rotate_left
        · rintro w' hS'
          obtain ⟨s0, s1, s2⟩ := hS'
          go_simp
          with_reducible rfl
        rotate_left
        · simp only [Act.put, List.setIfInBounds_toArray, List.set_cons_zero, List.set_cons_succ, i64_w, i32_w]
          rfl
        refine take_ (i := 3) (N := some 70) (v := ?_) (a' := ?_) #[true, true, true, true, true, false, false, false, true, false, false, false, false, false, false] rfl rfl (by kernel_rfl) (fun _ _ _ h => h) (Or.inl ⟨by rfl, ?_⟩) hHeld ?_ ?_
        rotate_left
        · rintro w' hS'
          obtain ⟨s0, s1, s2⟩ := hS'
          go_simp
          with_reducible rfl
        rotate_left
        · simp only [Act.put, List.setIfInBounds_toArray, List.set_cons_zero, List.set_cons_succ, i64_w, i32_w]
          rfl
        refine take_ (i := 5) (N := some 72) (v := ?_) (a' := ?_) #[true, true, true, true, true, true, false, false, true, false, false, false, false, false, false] rfl rfl (by kernel_rfl) (fun _ _ _ h => h) (Or.inl ⟨by rfl, ?_⟩) hHeld ?_ ?_
        rotate_left
        · rintro w' hS'
          obtain ⟨s0, s1, s2⟩ := hS'
          go_simp
          with_reducible rfl
        rotate_left
        · simp only [Act.put, List.setIfInBounds_toArray, List.set_cons_zero, List.set_cons_succ, i64_w, i32_w]
          rfl
        refine take_ (i := 9) (N := some 76) (v := ?_) (a' := ?_) #[true, true, true, true, true, true, false, false, true, true, false, false, false, false, false] rfl rfl (by kernel_rfl) (fun _ _ _ h => h) (Or.inl ⟨by rfl, ?_⟩) hHeld ?_ ?_
        rotate_left
        · rintro w' hS'
          obtain ⟨s0, s1, s2⟩ := hS'
          go_simp
          with_reducible rfl
        rotate_left
        · simp only [Act.put, List.setIfInBounds_toArray, List.set_cons_zero, List.set_cons_succ, i64_w, i32_w]
          rfl
        refine one_ (i := 6) (N := some 73) #[true, true, true, true, true, true, true, false, true, true, false, false, false, false, false] rfl rfl (by kernel_rfl) (by decide) (fun K hK => ?_)
        refine slice_step (n := 3) (by rfl) (N := 73) rfl (cs := #[.int .i64 t384, .int .i64 t384, .int .i64 t368]) (t := 3) ?hr ?_
        case hr => first | (go_simp; done) | (go_simp; rfl)
        intro g511 hg w512 hbox hb
        replace HS : Aside0 (Sep (fps []) w [b1 g31 a27 a28 a29 a30, b2 g34 0 0 0 0 0 0 0 0, b2 g191 t188 (wrap64 (a28 - 8)) (wrap64 ((wrap64 (a28 - 8)) + 1)) t357 t384 t368 t427 0, b4 g511 t384 t384 t368] w512) := ⟨HS.out.box hg hbox hb⟩
        clear hg hbox hb
        refine hK.out _ _ (⟨blk_cellv (HS.out.at2) 4 rfl, blk_cellv (HS.out.at2) 5 rfl, blk_cellv (HS.out.at0) 3 rfl⟩) (fun hHeld => ?_)
        clear hK K
        refine norm_ (a' := ?_) ?_ ?_
        rotate_left
        · show Act.put _ (some 73) _ = _
          simp only [Act.put, List.setIfInBounds_toArray, List.set_cons_zero, List.set_cons_succ, i64_w, i32_w]
          rfl
        refine one_ (i := 7) (N := some 74) #[true, true, true, true, true, true, true, true, true, true, false, false, false, false, false] rfl rfl (by kernel_rfl) (by decide) (fun K hK => ?_)
        obtain ⟨t514, HA515, H⟩ := bind_some H
        refine goes_ Try.func106 (by kernel_rfl) rfl #[.slice (some ⟨g511, 0, none⟩) 3 3] (by rfl) rfl rfl (by (try simp only [List.map_toArray, List.map_cons, List.map_nil]); first | done | rfl) ?_
        refine (ratio_Add.calls _ [t384, t384, t368] (some ⟨g511, 0, none⟩) 3 t514 _ ⟨Rd.lit (l := []) (xs := [t384, t384, t368]) HS.out 3 rfl (by simp)⟩ ⟨Sep.start _⟩ HA515).mono ?_
        rintro e_ w516 ⟨rfl, hS⟩
        replace HS : Aside0 (Sep (fps []) w [b1 g31 a27 a28 a29 a30, b2 g34 0 0 0 0 0 0 0 0, b2 g191 t188 (wrap64 (a28 - 8)) (wrap64 ((wrap64 (a28 - 8)) + 1)) t357 t384 t368 t427 0, b4 g511 t384 t384 t368] w516) := ⟨HS.out.call hS⟩
        clear hS
        refine ⟨_, rfl, ?_⟩
        refine hK.out _ _ (⟨blk_cellv (HS.out.at2) 4 rfl, blk_cellv (HS.out.at2) 5 rfl, blk_cellv (HS.out.at0) 3 rfl⟩) (fun hHeld => ?_)
        clear hK K
        refine norm_ (a' := ?_) ?_ ?_
        rotate_left
        · show Act.put _ (some 74) _ = _
          simp only [Act.put, List.setIfInBounds_toArray, List.set_cons_zero, List.set_cons_succ, i64_w, i32_w]
          rfl
        refine one_ (i := 10) (N := some 77) #[true, true, true, true, true, true, true, true, true, true, true, false, false, false, false] rfl rfl (by kernel_rfl) (by decide) (fun K hK => ?_)
        obtain ⟨t517, HA518, H⟩ := bind_some H
        refine goes_ Try.func108 (by kernel_rfl) rfl #[.int .i64 t514, .int .i64 a30] (by rfl) rfl rfl (by (try simp only [List.map_toArray, List.map_cons, List.map_nil]); first | done | rfl) ?_
        refine (ratio_Up.calls t514 a30 t517 _ ⟨Sep.start _⟩ HA518).mono ?_
        rintro e_ w519 ⟨rfl, hS⟩
        replace HS : Aside0 (Sep (fps []) w [b1 g31 a27 a28 a29 a30, b2 g34 0 0 0 0 0 0 0 0, b2 g191 t188 (wrap64 (a28 - 8)) (wrap64 ((wrap64 (a28 - 8)) + 1)) t357 t384 t368 t427 0, b4 g511 t384 t384 t368] w519) := ⟨HS.out.call hS⟩
        clear hS
        refine ⟨_, rfl, ?_⟩
        refine hK.out _ _ (⟨blk_cellv (HS.out.at2) 4 rfl, blk_cellv (HS.out.at2) 5 rfl, blk_cellv (HS.out.at0) 3 rfl⟩) (fun hHeld => ?_)
        clear hK K
        refine norm_ (a' := ?_) ?_ ?_
        rotate_left
        · show Act.put _ (some 77) _ = _
          simp only [Act.put, List.setIfInBounds_toArray, List.set_cons_zero, List.set_cons_succ, i64_w, i32_w]
          rfl
        refine one_ (i := 11) (N := some 78) #[true, true, true, true, true, true, true, true, true, true, true, true, false, false, false] rfl rfl (by kernel_rfl) (by decide) (fun K hK => ?_)
        refine slice_step (n := 2) (by rfl) (N := 78) rfl (cs := #[.int .i64 t517, .int .i64 2]) (t := 3) ?hr ?_
        case hr => first | (go_simp; done) | (go_simp; rfl)
        intro g520 hg w521 hbox hb
        replace HS : Aside0 (Sep (fps []) w [b1 g31 a27 a28 a29 a30, b2 g34 0 0 0 0 0 0 0 0, b2 g191 t188 (wrap64 (a28 - 8)) (wrap64 ((wrap64 (a28 - 8)) + 1)) t357 t384 t368 t427 0, b4 g511 t384 t384 t368, b3 g520 t517 2] w521) := ⟨HS.out.box hg hbox hb⟩
        clear hg hbox hb
        refine hK.out _ _ (⟨blk_cellv (HS.out.at2) 4 rfl, blk_cellv (HS.out.at2) 5 rfl, blk_cellv (HS.out.at0) 3 rfl⟩) (fun hHeld => ?_)
        clear hK K
        refine norm_ (a' := ?_) ?_ ?_
        rotate_left
        · show Act.put _ (some 78) _ = _
          simp only [Act.put, List.setIfInBounds_toArray, List.set_cons_zero, List.set_cons_succ, i64_w, i32_w]
          rfl
        refine one_ (i := 12) (N := some 79) #[true, true, true, true, true, true, true, true, true, true, true, true, true, false, false] rfl rfl (by kernel_rfl) (by decide) (fun K hK => ?_)
        obtain ⟨t523, HA524, H⟩ := bind_some H
        refine goes_ Try.func106 (by kernel_rfl) rfl #[.slice (some ⟨g520, 0, none⟩) 2 2] (by rfl) rfl rfl (by (try simp only [List.map_toArray, List.map_cons, List.map_nil]); first | done | rfl) ?_
        refine (ratio_Add.calls _ [t517, 2] (some ⟨g520, 0, none⟩) 2 t523 _ ⟨Rd.lit (l := []) (xs := [t517, 2]) HS.out 4 rfl (by simp)⟩ ⟨Sep.start _⟩ HA524).mono ?_
        rintro e_ w525 ⟨rfl, hS⟩
        replace HS : Aside0 (Sep (fps []) w [b1 g31 a27 a28 a29 a30, b2 g34 0 0 0 0 0 0 0 0, b2 g191 t188 (wrap64 (a28 - 8)) (wrap64 ((wrap64 (a28 - 8)) + 1)) t357 t384 t368 t427 0, b4 g511 t384 t384 t368, b3 g520 t517 2] w525) := ⟨HS.out.call hS⟩
        clear hS
        refine ⟨_, rfl, ?_⟩
        refine hK.out _ _ (⟨blk_cellv (HS.out.at2) 4 rfl, blk_cellv (HS.out.at2) 5 rfl, blk_cellv (HS.out.at0) 3 rfl⟩) (fun hHeld => ?_)
        clear hK K
        refine norm_ (a' := ?_) ?_ ?_
        rotate_left
        · show Act.put _ (some 79) _ = _
          simp only [Act.put, List.setIfInBounds_toArray, List.set_cons_zero, List.set_cons_succ, i64_w, i32_w]
          rfl
        refine pure_ (i := 13) (N := some 80) (v := ?_) (a' := ?_) #[true, true, true, true, true, true, true, true, true, true, true, true, true, true, false] rfl rfl (by kernel_rfl) (fun _ _ _ h => h) (Or.inl ⟨by rfl, ?_⟩) ?_ ?_
        rotate_left
        · intro w'
          go_simp
          with_reducible rfl
        rotate_left
        · simp only [Act.put, List.setIfInBounds_toArray, List.set_cons_zero, List.set_cons_succ, i64_w, i32_w]
          rfl
        refine one_ (i := 14) (N := none) #[true, true, true, true, true, true, true, true, true, true, true, true, true, true, true] rfl rfl (by kernel_rfl) (by decide) (fun K hK => ?_)
        have hc527 := blk_cellv (v := .int .i64 0) (HS.out.at2) 7 rfl
        have hz528 := blk_fz (HS.out.at2) 7
        refine store_step (w1 := (World.setCell w525 ⟨g191, 7, none⟩ (.int .i64 t523))) (by rfl) rfl ?hr ?_
        case hr => first | (go_simp; done) | (go_simp; rfl)
        clear hc527 hz528
        intro w526 hst
        have hq0 : Sep (fps []) w [b1 g31 a27 a28 a29 a30, b2 g34 0 0 0 0 0 0 0 0, b2 g191 t188 (wrap64 (a28 - 8)) (wrap64 ((wrap64 (a28 - 8)) + 1)) t357 t384 t368 t427 t523, b4 g511 t384 t384 t368, b3 g520 t517 2] (World.setCell w525 ⟨g191, 7, none⟩ (.int .i64 t523)) := (HS.out).set1 (l1 := [b1 g31 a27 a28 a29 a30, b2 g34 0 0 0 0 0 0 0 0]) (l2 := [b4 g511 t384 t384 t368, b3 g520 t517 2]) 7 (.int .i64 t523)
        have HS_ : Aside0 (Sep (fps []) w [b1 g31 a27 a28 a29 a30, b2 g34 0 0 0 0 0 0 0 0, b2 g191 t188 (wrap64 (a28 - 8)) (wrap64 ((wrap64 (a28 - 8)) + 1)) t357 t384 t368 t427 t523, b4 g511 t384 t384 t368, b3 g520 t517 2] w526) := ⟨by rw [hst]; exact hq0⟩
        clear hq0
        clear HS hst
        have HS := HS_
        clear HS_
        refine hK.out _ _ (⟨blk_cellv (HS.out.at2) 4 rfl, blk_cellv (HS.out.at2) 5 rfl, blk_cellv (HS.out.at0) 3 rfl⟩) (fun hHeld => ?_)
        clear hK K
        refine done_ (by kernel_rfl) ?_
        replace HS : Aside0 (Sep (fps []) w [b2 g34 0 0 0 0 0 0 0 0, b2 g191 t188 (wrap64 (a28 - 8)) (wrap64 ((wrap64 (a28 - 8)) + 1)) t357 t384 t368 t427 t523] w526) := ⟨HS.out.sub (.cons _ (.cons_cons _ (.cons_cons _ (.cons _ (.cons _ .slnil)))))⟩
        have hc529 : w526.cell? ⟨g191, 0, none⟩ = some (.int .i64 t188) := blk_cellv (HS.out.at1) 0 rfl
        have hc530 : w526.cell? ⟨g191, 1, none⟩ = some (.int .i64 (wrap64 (a28 - 8))) := blk_cellv (HS.out.at1) 1 rfl
        have hc531 : w526.cell? ⟨g191, 2, none⟩ = some (.int .i64 (wrap64 ((wrap64 (a28 - 8)) + 1))) := blk_cellv (HS.out.at1) 2 rfl
        have hc532 : w526.cell? ⟨g191, 3, none⟩ = some (.int .i64 t357) := blk_cellv (HS.out.at1) 3 rfl
        have hc533 : w526.cell? ⟨g191, 4, none⟩ = some (.int .i64 t384) := blk_cellv (HS.out.at1) 4 rfl
        have hc534 : w526.cell? ⟨g191, 5, none⟩ = some (.int .i64 t368) := blk_cellv (HS.out.at1) 5 rfl
        have hc535 : w526.cell? ⟨g191, 6, none⟩ = some (.int .i64 t427) := blk_cellv (HS.out.at1) 6 rfl
        have hc536 : w526.cell? ⟨g191, 7, none⟩ = some (.int .i64 t523) := blk_cellv (HS.out.at1) 7 rfl
        have hc537 : w526.cell? ⟨g34, 0, none⟩ = some (.int .i64 0) := blk_cellv (HS.out.at0) 0 rfl
        have hz538 : w526.frozen? ⟨g34, 0, none⟩ = false := blk_fz (HS.out.at0) 0
        have hc539 : w526.cell? ⟨g34, 1, none⟩ = some (.int .i64 0) := blk_cellv (HS.out.at0) 1 rfl
        have hz540 : w526.frozen? ⟨g34, 1, none⟩ = false := blk_fz (HS.out.at0) 1
        have hc541 : w526.cell? ⟨g34, 2, none⟩ = some (.int .i64 0) := blk_cellv (HS.out.at0) 2 rfl
        have hz542 : w526.frozen? ⟨g34, 2, none⟩ = false := blk_fz (HS.out.at0) 2
        have hc543 : w526.cell? ⟨g34, 3, none⟩ = some (.int .i64 0) := blk_cellv (HS.out.at0) 3 rfl
        have hz544 : w526.frozen? ⟨g34, 3, none⟩ = false := blk_fz (HS.out.at0) 3
        have hc545 : w526.cell? ⟨g34, 4, none⟩ = some (.int .i64 0) := blk_cellv (HS.out.at0) 4 rfl
        have hz546 : w526.frozen? ⟨g34, 4, none⟩ = false := blk_fz (HS.out.at0) 4
        have hc547 : w526.cell? ⟨g34, 5, none⟩ = some (.int .i64 0) := blk_cellv (HS.out.at0) 5 rfl
        have hz548 : w526.frozen? ⟨g34, 5, none⟩ = false := blk_fz (HS.out.at0) 5
        have hc549 : w526.cell? ⟨g34, 6, none⟩ = some (.int .i64 0) := blk_cellv (HS.out.at0) 6 rfl
        have hz550 : w526.frozen? ⟨g34, 6, none⟩ = false := blk_fz (HS.out.at0) 6
        have hc551 : w526.cell? ⟨g34, 7, none⟩ = some (.int .i64 0) := blk_cellv (HS.out.at0) 7 rfl
        have hz552 : w526.frozen? ⟨g34, 7, none⟩ = false := blk_fz (HS.out.at0) 7
        go_wp2_with (first | ((with_reducible refine gate_store (t := 120) (p := 2) rfl ?_); refine store_event (w1 := (World.setCell (World.setCell (World.setCell (World.setCell (World.setCell (World.setCell (World.setCell (World.setCell w526 ⟨g34, 0, none⟩ (.int .i64 t188)) ⟨g34, 1, none⟩ (.int .i64 (wrap64 (a28 - 8)))) ⟨g34, 2, none⟩ (.int .i64 (wrap64 ((wrap64 (a28 - 8)) + 1)))) ⟨g34, 3, none⟩ (.int .i64 t357)) ⟨g34, 4, none⟩ (.int .i64 t384)) ⟨g34, 5, none⟩ (.int .i64 t368)) ⟨g34, 6, none⟩ (.int .i64 t427)) ⟨g34, 7, none⟩ (.int .i64 t523))) rfl (t := 120) (p := 2) rfl rfl ?hr ?_; (case hr => first | (go_simp; done) | (go_simp; rfl)); intro w553 hst; clear hc529 hc530 hc531 hc532 hc533 hc534 hc535 hc536 hc537 hz538 hc539 hz540 hc541 hz542 hc543 hz544 hc545 hz546 hc547 hz548 hc549 hz550 hc551 hz552; replace HS : Aside0 (Sep (fps []) w [b2 g34 t188 (wrap64 (a28 - 8)) (wrap64 ((wrap64 (a28 - 8)) + 1)) t357 t384 t368 t427 t523, b2 g191 t188 (wrap64 (a28 - 8)) (wrap64 ((wrap64 (a28 - 8)) + 1)) t357 t384 t368 t427 t523] w553) := ⟨by rw [hst]; exact HS.out.setAll (l1 := []) (l2 := [b2 g191 t188 (wrap64 (a28 - 8)) (wrap64 ((wrap64 (a28 - 8)) + 1)) t357 t384 t368 t427 t523]) [.int .i64 t188, .int .i64 (wrap64 (a28 - 8)), .int .i64 (wrap64 ((wrap64 (a28 - 8)) + 1)), .int .i64 t357, .int .i64 t384, .int .i64 t368, .int .i64 t427, .int .i64 t523] rfl⟩; clear hst; replace HS : Aside0 (Sep (fps []) w [b2 g34 t188 (wrap64 (a28 - 8)) (wrap64 ((wrap64 (a28 - 8)) + 1)) t357 t384 t368 t427 t523] w553) := ⟨HS.out.sub (.cons_cons _ (.cons _ .slnil))⟩))
        have hc554 : w553.cell? ⟨g34, 0, none⟩ = some (.int .i64 t188) := blk_cellv (HS.out.at0) 0 rfl
        have hc555 : w553.cell? ⟨g34, 1, none⟩ = some (.int .i64 (wrap64 (a28 - 8))) := blk_cellv (HS.out.at0) 1 rfl
        have hc556 : w553.cell? ⟨g34, 2, none⟩ = some (.int .i64 (wrap64 ((wrap64 (a28 - 8)) + 1))) := blk_cellv (HS.out.at0) 2 rfl
        have hc557 : w553.cell? ⟨g34, 3, none⟩ = some (.int .i64 t357) := blk_cellv (HS.out.at0) 3 rfl
        have hc558 : w553.cell? ⟨g34, 4, none⟩ = some (.int .i64 t384) := blk_cellv (HS.out.at0) 4 rfl
        have hc559 : w553.cell? ⟨g34, 5, none⟩ = some (.int .i64 t368) := blk_cellv (HS.out.at0) 5 rfl
        have hc560 : w553.cell? ⟨g34, 6, none⟩ = some (.int .i64 t427) := blk_cellv (HS.out.at0) 6 rfl
        have hc561 : w553.cell? ⟨g34, 7, none⟩ = some (.int .i64 t523) := blk_cellv (HS.out.at0) 7 rfl
        refine bodyPost_ret (v := .tuple #[.agg #[.int .i64 t188, .int .i64 (wrap64 (a28 - 8)), .int .i64 (wrap64 ((wrap64 (a28 - 8)) + 1)), .int .i64 t357, .int .i64 t384, .int .i64 t368, .int .i64 t427, .int .i64 t523], .int .i64 0]) (by simp [results, Try.results76, go_sem, hc554, hc555, hc556, hc557, hc558, hc559, hc560, hc561]) rfl ?_
        rw [← some_eq H]
        exact ⟨(by first | rfl | (simp [IntKind.wrap_u32]; done)), HS.out.sub (.cons _ .slnil)⟩
  · have H := if_no c85 H
    have c85b0 : (t82 == 0) = false := beq_eq_false_iff_ne.mpr c85
    have c85b1 : (t82 != 0) = true := bne_iff_ne.mpr c85
    clear c85
    have hc562 : w84.cell? ⟨g34, 0, none⟩ = some (.int .i64 0) := blk_cellv (HS.out.at1) 0 rfl
    have hz563 : w84.frozen? ⟨g34, 0, none⟩ = false := blk_fz (HS.out.at1) 0
    have hc564 : w84.cell? ⟨g34, 1, none⟩ = some (.int .i64 0) := blk_cellv (HS.out.at1) 1 rfl
    have hz565 : w84.frozen? ⟨g34, 1, none⟩ = false := blk_fz (HS.out.at1) 1
    have hc566 : w84.cell? ⟨g34, 2, none⟩ = some (.int .i64 0) := blk_cellv (HS.out.at1) 2 rfl
    have hz567 : w84.frozen? ⟨g34, 2, none⟩ = false := blk_fz (HS.out.at1) 2
    have hc568 : w84.cell? ⟨g34, 3, none⟩ = some (.int .i64 0) := blk_cellv (HS.out.at1) 3 rfl
    have hz569 : w84.frozen? ⟨g34, 3, none⟩ = false := blk_fz (HS.out.at1) 3
    have hc570 : w84.cell? ⟨g34, 4, none⟩ = some (.int .i64 0) := blk_cellv (HS.out.at1) 4 rfl
    have hz571 : w84.frozen? ⟨g34, 4, none⟩ = false := blk_fz (HS.out.at1) 4
    have hc572 : w84.cell? ⟨g34, 5, none⟩ = some (.int .i64 0) := blk_cellv (HS.out.at1) 5 rfl
    have hz573 : w84.frozen? ⟨g34, 5, none⟩ = false := blk_fz (HS.out.at1) 5
    have hc574 : w84.cell? ⟨g34, 6, none⟩ = some (.int .i64 0) := blk_cellv (HS.out.at1) 6 rfl
    have hz575 : w84.frozen? ⟨g34, 6, none⟩ = false := blk_fz (HS.out.at1) 6
    have hc576 : w84.cell? ⟨g34, 7, none⟩ = some (.int .i64 0) := blk_cellv (HS.out.at1) 7 rfl
    have hz577 : w84.frozen? ⟨g34, 7, none⟩ = false := blk_fz (HS.out.at1) 7
    go_wp2_with (first | ((with_reducible refine gate_store (t := 120) (p := 2) rfl ?_); refine store_event (w1 := (World.setCell (World.setCell (World.setCell (World.setCell (World.setCell (World.setCell (World.setCell (World.setCell w84 ⟨g34, 0, none⟩ (.int .i64 0)) ⟨g34, 1, none⟩ (.int .i64 0)) ⟨g34, 2, none⟩ (.int .i64 0)) ⟨g34, 3, none⟩ (.int .i64 0)) ⟨g34, 4, none⟩ (.int .i64 0)) ⟨g34, 5, none⟩ (.int .i64 0)) ⟨g34, 6, none⟩ (.int .i64 0)) ⟨g34, 7, none⟩ (.int .i64 0))) rfl (t := 120) (p := 2) rfl rfl ?hr ?_; (case hr => first | (go_simp; done) | (go_simp; rfl)); intro w578 hst; clear hc562 hz563 hc564 hz565 hc566 hz567 hc568 hz569 hc570 hz571 hc572 hz573 hc574 hz575 hc576 hz577; replace HS : Aside0 (Sep (fps []) w [b1 g31 a27 a28 a29 a30, b2 g34 0 0 0 0 0 0 0 0] w578) := ⟨by rw [hst]; exact HS.out.setAll (l1 := [b1 g31 a27 a28 a29 a30]) (l2 := []) [.int .i64 0, .int .i64 0, .int .i64 0, .int .i64 0, .int .i64 0, .int .i64 0, .int .i64 0, .int .i64 0] rfl⟩; clear hst; replace HS : Aside0 (Sep (fps []) w [b2 g34 0 0 0 0 0 0 0 0] w578) := ⟨HS.out.sub (.cons _ (.cons_cons _ .slnil))⟩))
    have hc579 : w578.cell? ⟨g34, 0, none⟩ = some (.int .i64 0) := blk_cellv (HS.out.at0) 0 rfl
    have hc580 : w578.cell? ⟨g34, 1, none⟩ = some (.int .i64 0) := blk_cellv (HS.out.at0) 1 rfl
    have hc581 : w578.cell? ⟨g34, 2, none⟩ = some (.int .i64 0) := blk_cellv (HS.out.at0) 2 rfl
    have hc582 : w578.cell? ⟨g34, 3, none⟩ = some (.int .i64 0) := blk_cellv (HS.out.at0) 3 rfl
    have hc583 : w578.cell? ⟨g34, 4, none⟩ = some (.int .i64 0) := blk_cellv (HS.out.at0) 4 rfl
    have hc584 : w578.cell? ⟨g34, 5, none⟩ = some (.int .i64 0) := blk_cellv (HS.out.at0) 5 rfl
    have hc585 : w578.cell? ⟨g34, 6, none⟩ = some (.int .i64 0) := blk_cellv (HS.out.at0) 6 rfl
    have hc586 : w578.cell? ⟨g34, 7, none⟩ = some (.int .i64 0) := blk_cellv (HS.out.at0) 7 rfl
    refine bodyPost_ret (v := .tuple #[.agg #[.int .i64 0, .int .i64 0, .int .i64 0, .int .i64 0, .int .i64 0, .int .i64 0, .int .i64 0, .int .i64 0], .int .i64 t82]) (by simp [results, Try.results76, go_sem, hc579, hc580, hc581, hc582, hc583, hc584, hc585, hc586]) rfl ?_
    rw [← some_eq H]
    exact ⟨(by first | rfl | (simp [IntKind.wrap_u32]; done)), HS.out.sub (.cons _ .slnil)⟩

set_option maxHeartbeats 30000000 in
set_option maxRecDepth 100000 in
theorem store_New.calls (a612 : Int) (r : Unit ⊕ (List Int)) (w : World)   (HS : Aside0 (Sep (fps []) w [] w)) (H : Aside0 (store_New.f a612 = some r)) :
    Calls Try.prog 17 #[.int .i64 a612] w fun e w' => Sum.elim (fun (r : Unit) => e = .returned (.tuple #[.pointer none, .int .i64 2]) ∧ Sep (fps []) w [] w') (fun (r : List Int) => ∃ (g648 : Nat), e = .returned (.tuple #[.pointer (some ⟨g648, 0, none⟩), .int .i64 0]) ∧ ∃ (A649 : Option Addr) (m650 : Nat) (n651 : Nat), Sep (fps []) w [b6 g648 A649 m650 n651 0, r5 A649 m650 n651 r] w') r := by
  unfold store_New.f at H
  go_enter Try.func17, Try.ntmps17
  by_cases c626 : a612 < 0
  · have H := if_yes c626 H
    have c626b0 : decide (a612 < 0) = true := decide_eq_true c626
    clear c626
    go_wp2_with fail
    go_ret2
    rw [← some_eq H]
    exact ⟨(by first | rfl | (simp [IntKind.wrap_u32]; done)), HS.out⟩
  · have H := if_no c626 H
    have c626b0 : decide (a612 < 0) = false := decide_eq_false c626
    clear c626
    by_cases c627 : a612 > 8388608
    · have H := if_yes c627 H
      have c627b0 : decide (8388608 < a612) = true := decide_eq_true c627
      clear c627
      go_wp2_with fail
      go_ret2
      rw [← some_eq H]
      exact ⟨(by first | rfl | (simp [IntKind.wrap_u32]; done)), HS.out⟩
    · have H := if_no c627 H
      have c627b0 : decide (8388608 < a612) = false := decide_eq_false c627
      clear c627
      obtain ⟨m628, HA629, H⟩ := bind_some H
      obtain ⟨hm630, hn631⟩ := mkLen_eq HA629
      have hm630H := Aside0.mk hm630
      clear hm630
      go_wp2_with (first | ((with_reducible refine gate_dst (N := 11) rfl ?_); refine make_event rfl (N := 11) rfl 22 23 (.tmp 10) (.tmp 10) rfl .i64 (.int .u32 0) 4 Try.underlying22 (by kernel_rfl) rfl (by decide) (Value.int .u32) 0 rfl m628 (by show Value.int _ _ = _; rw [hm630H.out]) (by show Value.int _ _ = _; rw [hm630H.out]) (by omega) HS.out ?_; intro g632 w633 HS1; replace HS : Aside0 (Sep (fps []) w [r5 (some ⟨g632, 0, none⟩) m628 m628 (List.replicate m628 (0 : Int))] w633) := ⟨HS1⟩; clear HS1) | ((with_reducible refine gate_dst (N := 13) rfl ?_); refine box_on ?hg (N := 13) ?hd (cs := #[.slice (some ⟨g632, 0, none⟩) m628 m628, .int .u64 0]) (t := 115) ?hr ?_; (case hd => rfl); (case hg => rfl); (case hr => first | (go_simp; done) | (go_simp; rfl)); intro g636 hg w637 hbox hb; replace HS : Aside0 (Sep (fps []) w [r5 (some ⟨g632, 0, none⟩) m628 m628 (List.replicate m628 (0 : Int)), b6 g636 (some ⟨g632, 0, none⟩) m628 m628 0] w637) := ⟨HS.out.box hg hbox hb⟩; clear hg hbox hb))
      go_ret2
      rw [← some_eq H]
      exact ⟨g636, (by first | rfl | (simp [IntKind.wrap_u32]; done)), (some ⟨g632, 0, none⟩), m628, m628, ((HS.out).front 1 (by simp)).keep (l := [b6 g636 (some ⟨g632, 0, none⟩) m628 m628 0, r5 (some ⟨g632, 0, none⟩) m628 m628 (List.replicate m628 (0 : Int))]) (rest := [])⟩

set_option maxHeartbeats 30000000 in
set_option maxRecDepth 100000 in
theorem ground_New.calls (k : Nat) (a16 : Int) (a17 : Int) (a18 : Int) (a19 : Int) (r : Unit ⊕ ((Int × Int × Int × Int × List Int) ⊕ Int)) (w : World)   (HS : Aside0 (Sep (fps []) w [] w)) (H : Aside0 (ground_New.f k a16 a17 a18 a19 = some r)) :
    Calls Try.prog 29 #[.agg #[.int .i64 a16, .int .i64 a17, .int .i64 a18, .int .i64 a19]] w fun e w' => Sum.elim (fun (r : Unit) => e = .returned (.tuple #[.pointer none, .int .i64 2]) ∧ Sep (fps []) w [] w') (fun (r_ : (Int × Int × Int × Int × List Int) ⊕ Int) => Sum.elim (fun (r : Int × Int × Int × Int × List Int) => ∃ (g798 : Nat), e = .returned (.tuple #[.pointer (some ⟨g798, 0, none⟩), .int .i64 0]) ∧ ∃ (g799 : Nat) (A800 : Option Addr) (m801 : Nat) (n802 : Nat), Sep (fps []) w [b7 g798 g799 r.1 r.2.1 r.2.2.1 r.2.2.2.1, b6 g799 A800 m801 n802 0, r5 A800 m801 n802 r.2.2.2.2] w') (fun (r : Int) => e = .returned (.tuple #[.pointer none, .int .i64 r]) ∧ Sep (fps []) w [] w') r_) r := by
  unfold ground_New.f at H
  go_enter Try.func29, Try.ntmps29
  go_wp2_with (first | ((with_reducible refine gate_dst (N := 1) rfl ?_); refine box_on ?hg (N := 1) ?hd (cs := #[.int .i64 a16, .int .i64 a17, .int .i64 a18, .int .i64 a19]) (t := 49) ?hr ?_; (case hd => rfl); (case hg => rfl); (case hr => first | (go_simp; done) | (go_simp; rfl)); intro g734 hg w735 hbox hb; replace HS : Aside0 (Sep (fps []) w [b1 g734 a16 a17 a18 a19] w735) := ⟨HS.out.box hg hbox hb⟩; clear hg hbox hb; have hc737 : w735.cell? ⟨g734, 0, none⟩ = some (.int .i64 a16) := blk_cellv (HS.out.at0) 0 rfl; have hc738 : w735.cell? ⟨g734, 1, none⟩ = some (.int .i64 a17) := blk_cellv (HS.out.at0) 1 rfl; have hc739 : w735.cell? ⟨g734, 2, none⟩ = some (.int .i64 a18) := blk_cellv (HS.out.at0) 2 rfl; have hc740 : w735.cell? ⟨g734, 3, none⟩ = some (.int .i64 a19) := blk_cellv (HS.out.at0) 3 rfl))
  clear hc737 hc738 hc739 hc740
  obtain ⟨t741, HA742, H⟩ := bind_some H
  refine (plan_Of.calls _ a16 a17 a18 a19 t741 _ ⟨Sep.start _⟩ HA742).mono ?_
  rintro e_ w743 ⟨rfl, hS⟩
  replace HS : Aside0 (Sep (fps []) w [b1 g734 a16 a17 a18 a19] w743) := ⟨HS.out.call hS⟩
  clear hS
  by_cases c764 : t741.2.2.2.2.2.2.2.2 = 0
  · have H := if_yes c764 H
    have c764b0 : (t741.2.2.2.2.2.2.2.2 == 0) = true := beq_iff_eq.mpr c764
    have c764b1 : (t741.2.2.2.2.2.2.2.2 != 0) = false := bne_eq_false_iff_eq.mpr c764
    clear c764
    go_wp2_with (first | ((with_reducible refine gate_dst (N := 4) rfl ?_); refine box_on ?hg (N := 4) ?hd (cs := #[.int .i64 0, .int .i64 0, .int .i64 0, .int .i64 0, .int .i64 0, .int .i64 0, .int .i64 0, .int .i64 0]) (t := 120) ?hr ?_; (case hd => rfl); (case hg => rfl); (case hr => first | (go_simp; done) | (go_simp; rfl)); intro g744 hg w745 hbox hb; replace HS : Aside0 (Sep (fps []) w [b1 g734 a16 a17 a18 a19, b2 g744 0 0 0 0 0 0 0 0] w745) := ⟨HS.out.box hg hbox hb⟩; clear hg hbox hb; have hc747 : w745.cell? ⟨g744, 0, none⟩ = some (.int .i64 0) := blk_cellv (HS.out.at1) 0 rfl; have hz748 : w745.frozen? ⟨g744, 0, none⟩ = false := blk_fz (HS.out.at1) 0; have hc749 : w745.cell? ⟨g744, 1, none⟩ = some (.int .i64 0) := blk_cellv (HS.out.at1) 1 rfl; have hz750 : w745.frozen? ⟨g744, 1, none⟩ = false := blk_fz (HS.out.at1) 1; have hc751 : w745.cell? ⟨g744, 2, none⟩ = some (.int .i64 0) := blk_cellv (HS.out.at1) 2 rfl; have hz752 : w745.frozen? ⟨g744, 2, none⟩ = false := blk_fz (HS.out.at1) 2; have hc753 : w745.cell? ⟨g744, 3, none⟩ = some (.int .i64 0) := blk_cellv (HS.out.at1) 3 rfl; have hz754 : w745.frozen? ⟨g744, 3, none⟩ = false := blk_fz (HS.out.at1) 3; have hc755 : w745.cell? ⟨g744, 4, none⟩ = some (.int .i64 0) := blk_cellv (HS.out.at1) 4 rfl; have hz756 : w745.frozen? ⟨g744, 4, none⟩ = false := blk_fz (HS.out.at1) 4; have hc757 : w745.cell? ⟨g744, 5, none⟩ = some (.int .i64 0) := blk_cellv (HS.out.at1) 5 rfl; have hz758 : w745.frozen? ⟨g744, 5, none⟩ = false := blk_fz (HS.out.at1) 5; have hc759 : w745.cell? ⟨g744, 6, none⟩ = some (.int .i64 0) := blk_cellv (HS.out.at1) 6 rfl; have hz760 : w745.frozen? ⟨g744, 6, none⟩ = false := blk_fz (HS.out.at1) 6; have hc761 : w745.cell? ⟨g744, 7, none⟩ = some (.int .i64 0) := blk_cellv (HS.out.at1) 7 rfl; have hz762 : w745.frozen? ⟨g744, 7, none⟩ = false := blk_fz (HS.out.at1) 7) | ((with_reducible refine gate_store (t := 120) (p := 4) rfl ?_); refine store_event (w1 := (World.setCell (World.setCell (World.setCell (World.setCell (World.setCell (World.setCell (World.setCell (World.setCell w745 ⟨g744, 0, none⟩ (.int .i64 t741.1)) ⟨g744, 1, none⟩ (.int .i64 t741.2.1)) ⟨g744, 2, none⟩ (.int .i64 t741.2.2.1)) ⟨g744, 3, none⟩ (.int .i64 t741.2.2.2.1)) ⟨g744, 4, none⟩ (.int .i64 t741.2.2.2.2.1)) ⟨g744, 5, none⟩ (.int .i64 t741.2.2.2.2.2.1)) ⟨g744, 6, none⟩ (.int .i64 t741.2.2.2.2.2.2.1)) ⟨g744, 7, none⟩ (.int .i64 t741.2.2.2.2.2.2.2.1))) rfl (t := 120) (p := 4) rfl rfl ?hr ?_; (case hr => first | (go_simp; done) | (go_simp; rfl)); intro w763 hst; clear hc747 hz748 hc749 hz750 hc751 hz752 hc753 hz754 hc755 hz756 hc757 hz758 hc759 hz760 hc761 hz762; replace HS : Aside0 (Sep (fps []) w [b1 g734 a16 a17 a18 a19, b2 g744 t741.1 t741.2.1 t741.2.2.1 t741.2.2.2.1 t741.2.2.2.2.1 t741.2.2.2.2.2.1 t741.2.2.2.2.2.2.1 t741.2.2.2.2.2.2.2.1] w763) := ⟨by rw [hst]; exact HS.out.setAll (l1 := [b1 g734 a16 a17 a18 a19]) (l2 := []) [.int .i64 t741.1, .int .i64 t741.2.1, .int .i64 t741.2.2.1, .int .i64 t741.2.2.2.1, .int .i64 t741.2.2.2.2.1, .int .i64 t741.2.2.2.2.2.1, .int .i64 t741.2.2.2.2.2.2.1, .int .i64 t741.2.2.2.2.2.2.2.1] rfl⟩; clear hst; have hc765 : w763.cell? ⟨g744, 0, none⟩ = some (.int .i64 t741.1) := blk_cellv (HS.out.at1) 0 rfl))
    clear hc765
    obtain ⟨t766, HA767, H⟩ := bind_some H
    rcases t766 with t768 | t769
    · have H := sum_l H
      refine (store_New.calls t741.1 (.inl t768) _ ⟨Sep.start _⟩ HA767).mono ?_
      rintro e_ w770 ⟨rfl, hS⟩
      replace HS : Aside0 (Sep (fps []) w [b1 g734 a16 a17 a18 a19, b2 g744 t741.1 t741.2.1 t741.2.2.1 t741.2.2.2.1 t741.2.2.2.2.1 t741.2.2.2.2.2.1 t741.2.2.2.2.2.2.1 t741.2.2.2.2.2.2.2.1] w770) := ⟨HS.out.call hS⟩
      clear hS
      replace HS : Aside0 (Sep (fps []) w [b1 g734 a16 a17 a18 a19] w770) := ⟨HS.out.sub (.cons_cons _ (.cons _ .slnil))⟩
      replace HS : Aside0 (Sep (fps []) w [] w770) := ⟨HS.out.sub (.cons _ .slnil)⟩
      go_wp2_with fail
      go_ret2
      rw [← some_eq H]
      exact ⟨(by first | rfl | (simp [IntKind.wrap_u32]; done)), HS.out⟩
    · have H := sum_r H
      refine (store_New.calls t741.1 (.inr t769) _ ⟨Sep.start _⟩ HA767).mono ?_
      rintro e_ w771 ⟨g774, rfl, A775, m776, n777, hS⟩
      replace HS : Aside0 (Sep (fps []) w [b6 g774 A775 m776 n777 0, r5 A775 m776 n777 t769, b1 g734 a16 a17 a18 a19, b2 g744 t741.1 t741.2.1 t741.2.2.1 t741.2.2.2.1 t741.2.2.2.2.1 t741.2.2.2.2.2.1 t741.2.2.2.2.2.2.1 t741.2.2.2.2.2.2.2.1] w771) := ⟨HS.out.call hS⟩
      clear hS
      obtain rfl := (row_len (HS.out.at1)).symm
      replace HS : Aside0 (Sep (fps []) w [b6 g774 A775 t769.length n777 0, r5 A775 t769.length n777 t769, b1 g734 a16 a17 a18 a19] w771) := ⟨HS.out.sub (.cons_cons _ (.cons_cons _ (.cons_cons _ (.cons _ .slnil))))⟩
      have hc779 : w771.cell? ⟨g734, 0, none⟩ = some (.int .i64 a16) := blk_cellv (HS.out.at2) 0 rfl
      have hc780 : w771.cell? ⟨g734, 1, none⟩ = some (.int .i64 a17) := blk_cellv (HS.out.at2) 1 rfl
      have hc781 : w771.cell? ⟨g734, 2, none⟩ = some (.int .i64 a18) := blk_cellv (HS.out.at2) 2 rfl
      have hc782 : w771.cell? ⟨g734, 3, none⟩ = some (.int .i64 a19) := blk_cellv (HS.out.at2) 3 rfl
      go_wp2_with (first | ((with_reducible refine gate_dst (N := 28) rfl ?_); refine box_on ?hg (N := 28) ?hd (cs := #[.pointer (some ⟨g774, 0, none⟩), .int .i64 a16, .int .i64 a17, .int .i64 a18, .int .i64 a19]) (t := 126) ?hr ?_; (case hd => rfl); (case hg => rfl); (case hr => first | (go_simp; done) | (go_simp; rfl)); intro g783 hg w784 hbox hb; clear hc779 hc780 hc781 hc782; replace HS : Aside0 (Sep (fps []) w [b6 g774 A775 t769.length n777 0, r5 A775 t769.length n777 t769, b1 g734 a16 a17 a18 a19, b7 g783 g774 a16 a17 a18 a19] w784) := ⟨HS.out.box hg hbox hb⟩; clear hg hbox hb; replace HS : Aside0 (Sep (fps []) w [b6 g774 A775 t769.length n777 0, r5 A775 t769.length n777 t769, b7 g783 g774 a16 a17 a18 a19] w784) := ⟨HS.out.sub (.cons_cons _ (.cons_cons _ (.cons _ (.cons_cons _ .slnil))))⟩))
      go_ret2
      rw [← some_eq H]
      exact ⟨g783, (by first | rfl | (simp [IntKind.wrap_u32]; done)), g774, A775, t769.length, n777, ((((HS.out).front 1 (by simp)).front 1 (by simp)).front 2 (by simp)).keep (l := [b7 g783 g774 a16 a17 a18 a19, b6 g774 A775 t769.length n777 0, r5 A775 t769.length n777 t769]) (rest := [])⟩
  · have H := if_no c764 H
    have c764b0 : (t741.2.2.2.2.2.2.2.2 == 0) = false := beq_eq_false_iff_ne.mpr c764
    have c764b1 : (t741.2.2.2.2.2.2.2.2 != 0) = true := bne_iff_ne.mpr c764
    clear c764
    go_wp2_with (first | ((with_reducible refine gate_dst (N := 4) rfl ?_); refine box_on ?hg (N := 4) ?hd (cs := #[.int .i64 0, .int .i64 0, .int .i64 0, .int .i64 0, .int .i64 0, .int .i64 0, .int .i64 0, .int .i64 0]) (t := 120) ?hr ?_; (case hd => rfl); (case hg => rfl); (case hr => first | (go_simp; done) | (go_simp; rfl)); intro g744 hg w745 hbox hb; replace HS : Aside0 (Sep (fps []) w [b1 g734 a16 a17 a18 a19, b2 g744 0 0 0 0 0 0 0 0] w745) := ⟨HS.out.box hg hbox hb⟩; clear hg hbox hb; have hc747 : w745.cell? ⟨g744, 0, none⟩ = some (.int .i64 0) := blk_cellv (HS.out.at1) 0 rfl; have hz748 : w745.frozen? ⟨g744, 0, none⟩ = false := blk_fz (HS.out.at1) 0; have hc749 : w745.cell? ⟨g744, 1, none⟩ = some (.int .i64 0) := blk_cellv (HS.out.at1) 1 rfl; have hz750 : w745.frozen? ⟨g744, 1, none⟩ = false := blk_fz (HS.out.at1) 1; have hc751 : w745.cell? ⟨g744, 2, none⟩ = some (.int .i64 0) := blk_cellv (HS.out.at1) 2 rfl; have hz752 : w745.frozen? ⟨g744, 2, none⟩ = false := blk_fz (HS.out.at1) 2; have hc753 : w745.cell? ⟨g744, 3, none⟩ = some (.int .i64 0) := blk_cellv (HS.out.at1) 3 rfl; have hz754 : w745.frozen? ⟨g744, 3, none⟩ = false := blk_fz (HS.out.at1) 3; have hc755 : w745.cell? ⟨g744, 4, none⟩ = some (.int .i64 0) := blk_cellv (HS.out.at1) 4 rfl; have hz756 : w745.frozen? ⟨g744, 4, none⟩ = false := blk_fz (HS.out.at1) 4; have hc757 : w745.cell? ⟨g744, 5, none⟩ = some (.int .i64 0) := blk_cellv (HS.out.at1) 5 rfl; have hz758 : w745.frozen? ⟨g744, 5, none⟩ = false := blk_fz (HS.out.at1) 5; have hc759 : w745.cell? ⟨g744, 6, none⟩ = some (.int .i64 0) := blk_cellv (HS.out.at1) 6 rfl; have hz760 : w745.frozen? ⟨g744, 6, none⟩ = false := blk_fz (HS.out.at1) 6; have hc761 : w745.cell? ⟨g744, 7, none⟩ = some (.int .i64 0) := blk_cellv (HS.out.at1) 7 rfl; have hz762 : w745.frozen? ⟨g744, 7, none⟩ = false := blk_fz (HS.out.at1) 7) | ((with_reducible refine gate_store (t := 120) (p := 4) rfl ?_); refine store_event (w1 := (World.setCell (World.setCell (World.setCell (World.setCell (World.setCell (World.setCell (World.setCell (World.setCell w745 ⟨g744, 0, none⟩ (.int .i64 t741.1)) ⟨g744, 1, none⟩ (.int .i64 t741.2.1)) ⟨g744, 2, none⟩ (.int .i64 t741.2.2.1)) ⟨g744, 3, none⟩ (.int .i64 t741.2.2.2.1)) ⟨g744, 4, none⟩ (.int .i64 t741.2.2.2.2.1)) ⟨g744, 5, none⟩ (.int .i64 t741.2.2.2.2.2.1)) ⟨g744, 6, none⟩ (.int .i64 t741.2.2.2.2.2.2.1)) ⟨g744, 7, none⟩ (.int .i64 t741.2.2.2.2.2.2.2.1))) rfl (t := 120) (p := 4) rfl rfl ?hr ?_; (case hr => first | (go_simp; done) | (go_simp; rfl)); intro w763 hst; clear hc747 hz748 hc749 hz750 hc751 hz752 hc753 hz754 hc755 hz756 hc757 hz758 hc759 hz760 hc761 hz762; replace HS : Aside0 (Sep (fps []) w [b1 g734 a16 a17 a18 a19, b2 g744 t741.1 t741.2.1 t741.2.2.1 t741.2.2.2.1 t741.2.2.2.2.1 t741.2.2.2.2.2.1 t741.2.2.2.2.2.2.1 t741.2.2.2.2.2.2.2.1] w763) := ⟨by rw [hst]; exact HS.out.setAll (l1 := [b1 g734 a16 a17 a18 a19]) (l2 := []) [.int .i64 t741.1, .int .i64 t741.2.1, .int .i64 t741.2.2.1, .int .i64 t741.2.2.2.1, .int .i64 t741.2.2.2.2.1, .int .i64 t741.2.2.2.2.2.1, .int .i64 t741.2.2.2.2.2.2.1, .int .i64 t741.2.2.2.2.2.2.2.1] rfl⟩; clear hst; replace HS : Aside0 (Sep (fps []) w [] w763) := ⟨HS.out.sub (.cons _ (.cons _ .slnil))⟩))
    go_ret2
    rw [← some_eq H]
    exact ⟨(by first | rfl | (simp [IntKind.wrap_u32]; done)), HS.out⟩

set_option maxHeartbeats 30000000 in
set_option maxRecDepth 100000 in
theorem quitrentref03_May.calls (a814 : Int) (a815 : Int) (a816 : Int) (a817 : Int) (r : Bool) (w : World)   (HS : Aside0 (Sep (fps []) w [] w)) (H : Aside0 (quitrentref03_May.f a814 a815 a816 a817 = some r)) :
    Calls Try.prog 30 #[.agg #[.int .i64 a814, .int .i64 a815, .int .i64 a816, .int .i64 a817]] w fun e w' => e = .returned (.bool r) ∧ Sep (fps []) w [] w' := by
  unfold quitrentref03_May.f at H
  go_enter Try.func30, Try.ntmps30
  by_cases c822 : a814 < 1
  · have H := if_yes c822 H
    have c822b0 : decide (a814 < 1) = true := decide_eq_true c822
    clear c822
    go_wp2_with (first | ((with_reducible refine gate_dst (N := 1) rfl ?_); refine box_on ?hg (N := 1) ?hd (cs := #[.int .i64 a814, .int .i64 a815, .int .i64 a816, .int .i64 a817]) (t := 49) ?hr ?_; (case hd => rfl); (case hg => rfl); (case hr => first | (go_simp; done) | (go_simp; rfl)); intro g818 hg w819 hbox hb; replace HS : Aside0 (Sep (fps []) w [b1 g818 a814 a815 a816 a817] w819) := ⟨HS.out.box hg hbox hb⟩; clear hg hbox hb; have hc821 : w819.cell? ⟨g818, 0, none⟩ = some (.int .i64 a814) := blk_cellv (HS.out.at0) 0 rfl; replace HS : Aside0 (Sep (fps []) w [] w819) := ⟨HS.out.sub (.cons _ .slnil)⟩))
    clear hc821
    go_ret
    rw [← some_eq H]
    exact ⟨(by first | rfl | (simp [IntKind.wrap_u32]; done)), HS.out⟩
  · have H := if_no c822 H
    have c822b0 : decide (a814 < 1) = false := decide_eq_false c822
    clear c822
    by_cases c823 : a814 > 1048576
    · have H := if_yes c823 H
      have c823b0 : decide (1048576 < a814) = true := decide_eq_true c823
      clear c823
      go_wp2_with (first | ((with_reducible refine gate_dst (N := 1) rfl ?_); refine box_on ?hg (N := 1) ?hd (cs := #[.int .i64 a814, .int .i64 a815, .int .i64 a816, .int .i64 a817]) (t := 49) ?hr ?_; (case hd => rfl); (case hg => rfl); (case hr => first | (go_simp; done) | (go_simp; rfl)); intro g818 hg w819 hbox hb; replace HS : Aside0 (Sep (fps []) w [b1 g818 a814 a815 a816 a817] w819) := ⟨HS.out.box hg hbox hb⟩; clear hg hbox hb; have hc821 : w819.cell? ⟨g818, 0, none⟩ = some (.int .i64 a814) := blk_cellv (HS.out.at0) 0 rfl; replace HS : Aside0 (Sep (fps []) w [] w819) := ⟨HS.out.sub (.cons _ .slnil)⟩))
      clear hc821
      go_ret
      rw [← some_eq H]
      exact ⟨(by first | rfl | (simp [IntKind.wrap_u32]; done)), HS.out⟩
    · have H := if_no c823 H
      have c823b0 : decide (1048576 < a814) = false := decide_eq_false c823
      clear c823
      by_cases c825 : a815 < 16
      · have H := if_yes c825 H
        have c825b0 : decide (a815 < 16) = true := decide_eq_true c825
        clear c825
        go_wp2_with (first | ((with_reducible refine gate_dst (N := 1) rfl ?_); refine box_on ?hg (N := 1) ?hd (cs := #[.int .i64 a814, .int .i64 a815, .int .i64 a816, .int .i64 a817]) (t := 49) ?hr ?_; (case hd => rfl); (case hg => rfl); (case hr => first | (go_simp; done) | (go_simp; rfl)); intro g818 hg w819 hbox hb; replace HS : Aside0 (Sep (fps []) w [b1 g818 a814 a815 a816 a817] w819) := ⟨HS.out.box hg hbox hb⟩; clear hg hbox hb; have hc821 : w819.cell? ⟨g818, 0, none⟩ = some (.int .i64 a814) := blk_cellv (HS.out.at0) 0 rfl; have hc824 : w819.cell? ⟨g818, 1, none⟩ = some (.int .i64 a815) := blk_cellv (HS.out.at0) 1 rfl; replace HS : Aside0 (Sep (fps []) w [] w819) := ⟨HS.out.sub (.cons _ .slnil)⟩))
        clear hc821 hc824
        go_ret
        rw [← some_eq H]
        exact ⟨(by first | rfl | (simp [IntKind.wrap_u32]; done)), HS.out⟩
      · have H := if_no c825 H
        have c825b0 : decide (a815 < 16) = false := decide_eq_false c825
        clear c825
        by_cases c826 : a815 > 256
        · have H := if_yes c826 H
          have c826b0 : decide (256 < a815) = true := decide_eq_true c826
          clear c826
          go_wp2_with (first | ((with_reducible refine gate_dst (N := 1) rfl ?_); refine box_on ?hg (N := 1) ?hd (cs := #[.int .i64 a814, .int .i64 a815, .int .i64 a816, .int .i64 a817]) (t := 49) ?hr ?_; (case hd => rfl); (case hg => rfl); (case hr => first | (go_simp; done) | (go_simp; rfl)); intro g818 hg w819 hbox hb; replace HS : Aside0 (Sep (fps []) w [b1 g818 a814 a815 a816 a817] w819) := ⟨HS.out.box hg hbox hb⟩; clear hg hbox hb; have hc821 : w819.cell? ⟨g818, 0, none⟩ = some (.int .i64 a814) := blk_cellv (HS.out.at0) 0 rfl; have hc824 : w819.cell? ⟨g818, 1, none⟩ = some (.int .i64 a815) := blk_cellv (HS.out.at0) 1 rfl; replace HS : Aside0 (Sep (fps []) w [] w819) := ⟨HS.out.sub (.cons _ .slnil)⟩))
          clear hc821 hc824
          go_ret
          rw [← some_eq H]
          exact ⟨(by first | rfl | (simp [IntKind.wrap_u32]; done)), HS.out⟩
        · have H := if_no c826 H
          have c826b0 : decide (256 < a815) = false := decide_eq_false c826
          clear c826
          by_cases c828 : a816 < 1
          · have H := if_yes c828 H
            have c828b0 : decide (a816 < 1) = true := decide_eq_true c828
            clear c828
            go_wp2_with (first | ((with_reducible refine gate_dst (N := 1) rfl ?_); refine box_on ?hg (N := 1) ?hd (cs := #[.int .i64 a814, .int .i64 a815, .int .i64 a816, .int .i64 a817]) (t := 49) ?hr ?_; (case hd => rfl); (case hg => rfl); (case hr => first | (go_simp; done) | (go_simp; rfl)); intro g818 hg w819 hbox hb; replace HS : Aside0 (Sep (fps []) w [b1 g818 a814 a815 a816 a817] w819) := ⟨HS.out.box hg hbox hb⟩; clear hg hbox hb; have hc821 : w819.cell? ⟨g818, 0, none⟩ = some (.int .i64 a814) := blk_cellv (HS.out.at0) 0 rfl; have hc824 : w819.cell? ⟨g818, 1, none⟩ = some (.int .i64 a815) := blk_cellv (HS.out.at0) 1 rfl; have hc827 : w819.cell? ⟨g818, 2, none⟩ = some (.int .i64 a816) := blk_cellv (HS.out.at0) 2 rfl; replace HS : Aside0 (Sep (fps []) w [] w819) := ⟨HS.out.sub (.cons _ .slnil)⟩))
            clear hc821 hc824 hc827
            go_ret
            rw [← some_eq H]
            exact ⟨(by first | rfl | (simp [IntKind.wrap_u32]; done)), HS.out⟩
          · have H := if_no c828 H
            have c828b0 : decide (a816 < 1) = false := decide_eq_false c828
            clear c828
            by_cases c829 : a816 > 4096
            · have H := if_yes c829 H
              have c829b0 : decide (4096 < a816) = true := decide_eq_true c829
              clear c829
              go_wp2_with (first | ((with_reducible refine gate_dst (N := 1) rfl ?_); refine box_on ?hg (N := 1) ?hd (cs := #[.int .i64 a814, .int .i64 a815, .int .i64 a816, .int .i64 a817]) (t := 49) ?hr ?_; (case hd => rfl); (case hg => rfl); (case hr => first | (go_simp; done) | (go_simp; rfl)); intro g818 hg w819 hbox hb; replace HS : Aside0 (Sep (fps []) w [b1 g818 a814 a815 a816 a817] w819) := ⟨HS.out.box hg hbox hb⟩; clear hg hbox hb; have hc821 : w819.cell? ⟨g818, 0, none⟩ = some (.int .i64 a814) := blk_cellv (HS.out.at0) 0 rfl; have hc824 : w819.cell? ⟨g818, 1, none⟩ = some (.int .i64 a815) := blk_cellv (HS.out.at0) 1 rfl; have hc827 : w819.cell? ⟨g818, 2, none⟩ = some (.int .i64 a816) := blk_cellv (HS.out.at0) 2 rfl; replace HS : Aside0 (Sep (fps []) w [] w819) := ⟨HS.out.sub (.cons _ .slnil)⟩))
              clear hc821 hc824 hc827
              go_ret
              rw [← some_eq H]
              exact ⟨(by first | rfl | (simp [IntKind.wrap_u32]; done)), HS.out⟩
            · have H := if_no c829 H
              have c829b0 : decide (4096 < a816) = false := decide_eq_false c829
              clear c829
              by_cases c831 : a817 < 1
              · have H := if_yes c831 H
                have c831b0 : decide (a817 < 1) = true := decide_eq_true c831
                clear c831
                go_wp2_with (first | ((with_reducible refine gate_dst (N := 1) rfl ?_); refine box_on ?hg (N := 1) ?hd (cs := #[.int .i64 a814, .int .i64 a815, .int .i64 a816, .int .i64 a817]) (t := 49) ?hr ?_; (case hd => rfl); (case hg => rfl); (case hr => first | (go_simp; done) | (go_simp; rfl)); intro g818 hg w819 hbox hb; replace HS : Aside0 (Sep (fps []) w [b1 g818 a814 a815 a816 a817] w819) := ⟨HS.out.box hg hbox hb⟩; clear hg hbox hb; have hc821 : w819.cell? ⟨g818, 0, none⟩ = some (.int .i64 a814) := blk_cellv (HS.out.at0) 0 rfl; have hc824 : w819.cell? ⟨g818, 1, none⟩ = some (.int .i64 a815) := blk_cellv (HS.out.at0) 1 rfl; have hc827 : w819.cell? ⟨g818, 2, none⟩ = some (.int .i64 a816) := blk_cellv (HS.out.at0) 2 rfl; have hc830 : w819.cell? ⟨g818, 3, none⟩ = some (.int .i64 a817) := blk_cellv (HS.out.at0) 3 rfl; replace HS : Aside0 (Sep (fps []) w [] w819) := ⟨HS.out.sub (.cons _ .slnil)⟩))
                clear hc821 hc824 hc827 hc830
                go_ret
                rw [← some_eq H]
                exact ⟨(by first | rfl | (simp [IntKind.wrap_u32]; done)), HS.out⟩
              · have H := if_no c831 H
                have c831b0 : decide (a817 < 1) = false := decide_eq_false c831
                clear c831
                by_cases c832 : a817 > 65536
                · have H := if_yes c832 H
                  have c832b0 : decide (65536 < a817) = true := decide_eq_true c832
                  clear c832
                  go_wp2_with (first | ((with_reducible refine gate_dst (N := 1) rfl ?_); refine box_on ?hg (N := 1) ?hd (cs := #[.int .i64 a814, .int .i64 a815, .int .i64 a816, .int .i64 a817]) (t := 49) ?hr ?_; (case hd => rfl); (case hg => rfl); (case hr => first | (go_simp; done) | (go_simp; rfl)); intro g818 hg w819 hbox hb; replace HS : Aside0 (Sep (fps []) w [b1 g818 a814 a815 a816 a817] w819) := ⟨HS.out.box hg hbox hb⟩; clear hg hbox hb; have hc821 : w819.cell? ⟨g818, 0, none⟩ = some (.int .i64 a814) := blk_cellv (HS.out.at0) 0 rfl; have hc824 : w819.cell? ⟨g818, 1, none⟩ = some (.int .i64 a815) := blk_cellv (HS.out.at0) 1 rfl; have hc827 : w819.cell? ⟨g818, 2, none⟩ = some (.int .i64 a816) := blk_cellv (HS.out.at0) 2 rfl; have hc830 : w819.cell? ⟨g818, 3, none⟩ = some (.int .i64 a817) := blk_cellv (HS.out.at0) 3 rfl; replace HS : Aside0 (Sep (fps []) w [] w819) := ⟨HS.out.sub (.cons _ .slnil)⟩))
                  clear hc821 hc824 hc827 hc830
                  go_ret
                  rw [← some_eq H]
                  exact ⟨(by first | rfl | (simp [IntKind.wrap_u32]; done)), HS.out⟩
                · have H := if_no c832 H
                  have c832b0 : decide (65536 < a817) = false := decide_eq_false c832
                  clear c832
                  go_wp2_with (first | ((with_reducible refine gate_dst (N := 1) rfl ?_); refine box_on ?hg (N := 1) ?hd (cs := #[.int .i64 a814, .int .i64 a815, .int .i64 a816, .int .i64 a817]) (t := 49) ?hr ?_; (case hd => rfl); (case hg => rfl); (case hr => first | (go_simp; done) | (go_simp; rfl)); intro g818 hg w819 hbox hb; replace HS : Aside0 (Sep (fps []) w [b1 g818 a814 a815 a816 a817] w819) := ⟨HS.out.box hg hbox hb⟩; clear hg hbox hb; have hc821 : w819.cell? ⟨g818, 0, none⟩ = some (.int .i64 a814) := blk_cellv (HS.out.at0) 0 rfl; have hc824 : w819.cell? ⟨g818, 1, none⟩ = some (.int .i64 a815) := blk_cellv (HS.out.at0) 1 rfl; have hc827 : w819.cell? ⟨g818, 2, none⟩ = some (.int .i64 a816) := blk_cellv (HS.out.at0) 2 rfl; have hc830 : w819.cell? ⟨g818, 3, none⟩ = some (.int .i64 a817) := blk_cellv (HS.out.at0) 3 rfl; replace HS : Aside0 (Sep (fps []) w [] w819) := ⟨HS.out.sub (.cons _ .slnil)⟩))
                  clear hc821 hc824 hc827 hc830
                  go_ret
                  rw [← some_eq H]
                  exact ⟨(by first | rfl | (simp [IntKind.wrap_u32]; done)), HS.out⟩

set_option maxHeartbeats 30000000 in
set_option maxRecDepth 100000 in
theorem ground_Ground_all.calls (l877 : List Int) (a882 : Int) (a883 : Int) (a884 : Int) (a885 : Int) (a886 : Int) (g873 : Nat) (g875 : Nat) (A878 : Option Addr) (m879 : Nat) (n880 : Nat) (r : Unit) (w : World)   (HS : Aside0 (Sep (fps [b7 g873 g875 a883 a884 a885 a886, b6 g875 A878 m879 n880 a882, r5 A878 m879 n880 l877]) w [b7 g873 g875 a883 a884 a885 a886, b6 g875 A878 m879 n880 a882, r5 A878 m879 n880 l877] w)) (H : Aside0 (ground_Ground_all.f l877 a882 a883 a884 a885 a886 = some r)) :
    Calls Try.prog 77 #[.pointer (some ⟨g873, 0, none⟩)] w fun e w' => e = .returned (.pointer (some ⟨g875, 0, none⟩)) ∧ Sep (fps [b7 g873 g875 a883 a884 a885 a886, b6 g875 A878 m879 n880 a882, r5 A878 m879 n880 l877]) w [b7 g873 g875 a883 a884 a885 a886, b6 g875 A878 m879 n880 a882, r5 A878 m879 n880 l877] w' := by
  generalize (fps [b7 g873 g875 a883 a884 a885 a886, b6 g875 A878 m879 n880 a882, r5 A878 m879 n880 l877]) = FF at HS ⊢
  obtain rfl := (row_len (HS.out.at2)).symm
  unfold ground_Ground_all.f at H
  go_enter Try.func77, Try.ntmps77
  have hc887 : w.cell? ⟨g873, 0, none⟩ = some (.pointer (some ⟨g875, 0, none⟩)) := blk_cellv (HS.out.at0) 0 rfl
  go_wp2_with fail
  clear hc887
  go_ret
  clear H
  exact ⟨(by first | rfl | (simp [IntKind.wrap_u32]; done)), HS.out⟩

set_option maxHeartbeats 30000000 in
set_option maxRecDepth 100000 in
theorem ground_Ground_Conf.calls (l913 : List Int) (a918 : Int) (a919 : Int) (a920 : Int) (a921 : Int) (a922 : Int) (g909 : Nat) (g911 : Nat) (A914 : Option Addr) (m915 : Nat) (n916 : Nat) (r : Int × Int × Int × Int) (w : World)   (HS : Aside0 (Sep (fps [b7 g909 g911 a919 a920 a921 a922, b6 g911 A914 m915 n916 a918, r5 A914 m915 n916 l913]) w [b7 g909 g911 a919 a920 a921 a922, b6 g911 A914 m915 n916 a918, r5 A914 m915 n916 l913] w)) (H : Aside0 (ground_Ground_Conf.f l913 a918 a919 a920 a921 a922 = some r)) :
    Calls Try.prog 39 #[.pointer (some ⟨g909, 0, none⟩)] w fun e w' => e = .returned (.agg #[.int .i64 r.1, .int .i64 r.2.1, .int .i64 r.2.2.1, .int .i64 r.2.2.2]) ∧ Sep (fps [b7 g909 g911 a919 a920 a921 a922, b6 g911 A914 m915 n916 a918, r5 A914 m915 n916 l913]) w [b7 g909 g911 a919 a920 a921 a922, b6 g911 A914 m915 n916 a918, r5 A914 m915 n916 l913] w' := by
  generalize (fps [b7 g909 g911 a919 a920 a921 a922, b6 g911 A914 m915 n916 a918, r5 A914 m915 n916 l913]) = FF at HS ⊢
  obtain rfl := (row_len (HS.out.at2)).symm
  unfold ground_Ground_Conf.f at H
  go_enter Try.func39, Try.ntmps39
  go_wp2_with (first | ((with_reducible refine gate_dst (N := 2) rfl ?_); refine box_on ?hg (N := 2) ?hd (cs := #[.int .i64 0, .int .i64 0, .int .i64 0, .int .i64 0]) (t := 49) ?hr ?_; (case hd => rfl); (case hg => rfl); (case hr => first | (go_simp; done) | (go_simp; rfl)); intro g923 hg w924 hbox hb; replace HS : Aside0 (Sep FF w [b7 g909 g911 a919 a920 a921 a922, b6 g911 A914 l913.length n916 a918, r5 A914 l913.length n916 l913, b1 g923 0 0 0 0] w924) := ⟨HS.out.box hg hbox hb⟩; clear hg hbox hb; have hc926 : w924.cell? ⟨g909, 1, none⟩ = some (.int .i64 a919) := blk_cellv (HS.out.at0) 1 rfl; have hc927 : w924.cell? ⟨g909, 2, none⟩ = some (.int .i64 a920) := blk_cellv (HS.out.at0) 2 rfl; have hc928 : w924.cell? ⟨g909, 3, none⟩ = some (.int .i64 a921) := blk_cellv (HS.out.at0) 3 rfl; have hc929 : w924.cell? ⟨g909, 4, none⟩ = some (.int .i64 a922) := blk_cellv (HS.out.at0) 4 rfl; have hc930 : w924.cell? ⟨g923, 0, none⟩ = some (.int .i64 0) := blk_cellv (HS.out.at3) 0 rfl; have hz931 : w924.frozen? ⟨g923, 0, none⟩ = false := blk_fz (HS.out.at3) 0; have hc932 : w924.cell? ⟨g923, 1, none⟩ = some (.int .i64 0) := blk_cellv (HS.out.at3) 1 rfl; have hz933 : w924.frozen? ⟨g923, 1, none⟩ = false := blk_fz (HS.out.at3) 1; have hc934 : w924.cell? ⟨g923, 2, none⟩ = some (.int .i64 0) := blk_cellv (HS.out.at3) 2 rfl; have hz935 : w924.frozen? ⟨g923, 2, none⟩ = false := blk_fz (HS.out.at3) 2; have hc936 : w924.cell? ⟨g923, 3, none⟩ = some (.int .i64 0) := blk_cellv (HS.out.at3) 3 rfl; have hz937 : w924.frozen? ⟨g923, 3, none⟩ = false := blk_fz (HS.out.at3) 3) | ((with_reducible refine gate_store (t := 49) (p := 2) rfl ?_); refine store_event (w1 := (World.setCell (World.setCell (World.setCell (World.setCell w924 ⟨g923, 0, none⟩ (.int .i64 a919)) ⟨g923, 1, none⟩ (.int .i64 a920)) ⟨g923, 2, none⟩ (.int .i64 a921)) ⟨g923, 3, none⟩ (.int .i64 a922))) rfl (t := 49) (p := 2) rfl rfl ?hr ?_; (case hr => first | (go_simp; done) | (go_simp; rfl)); intro w938 hst; clear hc926 hc927 hc928 hc929 hc930 hz931 hc932 hz933 hc934 hz935 hc936 hz937; replace HS : Aside0 (Sep FF w [b7 g909 g911 a919 a920 a921 a922, b6 g911 A914 l913.length n916 a918, r5 A914 l913.length n916 l913, b1 g923 a919 a920 a921 a922] w938) := ⟨by rw [hst]; exact HS.out.setAll (l1 := [b7 g909 g911 a919 a920 a921 a922, b6 g911 A914 l913.length n916 a918, r5 A914 l913.length n916 l913]) (l2 := []) [.int .i64 a919, .int .i64 a920, .int .i64 a921, .int .i64 a922] rfl⟩; clear hst))
  have hc939 : w938.cell? ⟨g923, 0, none⟩ = some (.int .i64 a919) := blk_cellv (HS.out.at3) 0 rfl
  have hc940 : w938.cell? ⟨g923, 1, none⟩ = some (.int .i64 a920) := blk_cellv (HS.out.at3) 1 rfl
  have hc941 : w938.cell? ⟨g923, 2, none⟩ = some (.int .i64 a921) := blk_cellv (HS.out.at3) 2 rfl
  have hc942 : w938.cell? ⟨g923, 3, none⟩ = some (.int .i64 a922) := blk_cellv (HS.out.at3) 3 rfl
  refine bodyPost_ret (v := .agg #[.int .i64 a919, .int .i64 a920, .int .i64 a921, .int .i64 a922]) (by simp [results, Try.results39, go_sem, hc939, hc940, hc941, hc942]) rfl ?_
  rw [← some_eq H]
  exact ⟨(by first | rfl | (simp [IntKind.wrap_u32]; done)), HS.out.sub (.cons_cons _ (.cons_cons _ (.cons_cons _ (.cons _ .slnil))))⟩

set_option maxHeartbeats 30000000 in
set_option maxRecDepth 100000 in
theorem ground_within.calls (a959 : Int) (a960 : Int) (a961 : Int) (r : Int) (w : World)   (HS : Aside0 (Sep (fps []) w [] w)) (H : Aside0 (ground_within.f a959 a960 a961 = some r)) :
    Calls Try.prog 109 #[.int .i64 a959, .int .i64 a960, .int .i64 a961] w fun e w' => e = .returned (.int .i64 r) ∧ Sep (fps []) w [] w' := by
  unfold ground_within.f at H
  go_enter Try.func109, Try.ntmps109
  by_cases c962 : a959 < 0
  · have H := if_yes c962 H
    have c962b0 : decide (a959 < 0) = true := decide_eq_true c962
    clear c962
    go_wp2_with fail
    go_ret
    rw [← some_eq H]
    exact ⟨(by first | rfl | (simp [IntKind.wrap_u32]; done)), HS.out⟩
  · have H := if_no c962 H
    have c962b0 : decide (a959 < 0) = false := decide_eq_false c962
    clear c962
    by_cases c963 : a959 ≥ a960
    · have H := if_yes c963 H
      have c963b0 : decide (a960 ≤ a959) = true := decide_eq_true c963
      clear c963
      go_wp2_with fail
      go_ret
      rw [← some_eq H]
      exact ⟨(by first | rfl | (simp [IntKind.wrap_u32]; done)), HS.out⟩
    · have H := if_no c963 H
      have c963b0 : decide (a960 ≤ a959) = false := decide_eq_false c963
      clear c963
      go_wp2_with fail
      go_ret
      rw [← some_eq H]
      exact ⟨(by first | rfl | (simp [IntKind.wrap_u32]; done)), HS.out⟩

set_option maxHeartbeats 30000000 in
set_option maxRecDepth 100000 in
theorem ground_Ground_word.calls (l896 : List Int) (a901 : Int) (a902 : Int) (a903 : Int) (a904 : Int) (a905 : Int) (a906 : Int) (a907 : Int) (g892 : Nat) (g894 : Nat) (A897 : Option Addr) (m898 : Nat) (n899 : Nat) (r : Int) (w : World)   (HS : Aside0 (Sep (fps [b7 g892 g894 a902 a903 a904 a905, b6 g894 A897 m898 n899 a901, r5 A897 m898 n899 l896]) w [b7 g892 g894 a902 a903 a904 a905, b6 g894 A897 m898 n899 a901, r5 A897 m898 n899 l896] w)) (H : Aside0 (ground_Ground_word.f l896 a901 a902 a903 a904 a905 a906 a907 = some r)) :
    Calls Try.prog 87 #[.pointer (some ⟨g892, 0, none⟩), .int .i64 a906, .int .i64 a907] w fun e w' => e = .returned (.int .i64 r) ∧ Sep (fps [b7 g892 g894 a902 a903 a904 a905, b6 g894 A897 m898 n899 a901, r5 A897 m898 n899 l896]) w [b7 g892 g894 a902 a903 a904 a905, b6 g894 A897 m898 n899 a901, r5 A897 m898 n899 l896] w' := by
  generalize (fps [b7 g892 g894 a902 a903 a904 a905, b6 g894 A897 m898 n899 a901, r5 A897 m898 n899 l896]) = FF at HS ⊢
  obtain rfl := (row_len (HS.out.at2)).symm
  unfold ground_Ground_word.f at H
  go_enter Try.func87, Try.ntmps87
  go_wp2_with fail
  obtain ⟨t943, HA944, H⟩ := bind_some H
  refine (ground_Ground_Conf.calls l896 a901 a902 a903 a904 a905 g892 g894 A897 l896.length n899 t943 _ ⟨HS.out.begin⟩ HA944).mono ?_
  rintro e_ w945 ⟨rfl, hS⟩
  replace HS : Aside0 (Sep FF w [b7 g892 g894 a902 a903 a904 a905, b6 g894 A897 l896.length n899 a901, r5 A897 l896.length n899 l896] w945) := ⟨HS.out.call hS⟩
  clear hS
  go_wp2_with (first | ((with_reducible refine gate_dst (N := 7) rfl ?_); refine box_on ?hg (N := 7) ?hd (cs := #[.int .i64 0, .int .i64 0, .int .i64 0, .int .i64 0]) (t := 49) ?hr ?_; (case hd => rfl); (case hg => rfl); (case hr => first | (go_simp; done) | (go_simp; rfl)); intro g946 hg w947 hbox hb; replace HS : Aside0 (Sep FF w [b7 g892 g894 a902 a903 a904 a905, b6 g894 A897 l896.length n899 a901, r5 A897 l896.length n899 l896, b1 g946 0 0 0 0] w947) := ⟨HS.out.box hg hbox hb⟩; clear hg hbox hb; have hc949 : w947.cell? ⟨g946, 0, none⟩ = some (.int .i64 0) := blk_cellv (HS.out.at3) 0 rfl; have hz950 : w947.frozen? ⟨g946, 0, none⟩ = false := blk_fz (HS.out.at3) 0; have hc951 : w947.cell? ⟨g946, 1, none⟩ = some (.int .i64 0) := blk_cellv (HS.out.at3) 1 rfl; have hz952 : w947.frozen? ⟨g946, 1, none⟩ = false := blk_fz (HS.out.at3) 1; have hc953 : w947.cell? ⟨g946, 2, none⟩ = some (.int .i64 0) := blk_cellv (HS.out.at3) 2 rfl; have hz954 : w947.frozen? ⟨g946, 2, none⟩ = false := blk_fz (HS.out.at3) 2; have hc955 : w947.cell? ⟨g946, 3, none⟩ = some (.int .i64 0) := blk_cellv (HS.out.at3) 3 rfl; have hz956 : w947.frozen? ⟨g946, 3, none⟩ = false := blk_fz (HS.out.at3) 3) | ((with_reducible refine gate_store (t := 49) (p := 7) rfl ?_); refine store_event (w1 := (World.setCell (World.setCell (World.setCell (World.setCell w947 ⟨g946, 0, none⟩ (.int .i64 t943.1)) ⟨g946, 1, none⟩ (.int .i64 t943.2.1)) ⟨g946, 2, none⟩ (.int .i64 t943.2.2.1)) ⟨g946, 3, none⟩ (.int .i64 t943.2.2.2))) rfl (t := 49) (p := 7) rfl rfl ?hr ?_; (case hr => first | (go_simp; done) | (go_simp; rfl)); intro w957 hst; clear hc949 hz950 hc951 hz952 hc953 hz954 hc955 hz956; replace HS : Aside0 (Sep FF w [b7 g892 g894 a902 a903 a904 a905, b6 g894 A897 l896.length n899 a901, r5 A897 l896.length n899 l896, b1 g946 t943.1 t943.2.1 t943.2.2.1 t943.2.2.2] w957) := ⟨by rw [hst]; exact HS.out.setAll (l1 := [b7 g892 g894 a902 a903 a904 a905, b6 g894 A897 l896.length n899 a901, r5 A897 l896.length n899 l896]) (l2 := []) [.int .i64 t943.1, .int .i64 t943.2.1, .int .i64 t943.2.2.1, .int .i64 t943.2.2.2] rfl⟩; clear hst; have hc958 : w957.cell? ⟨g946, 0, none⟩ = some (.int .i64 t943.1) := blk_cellv (HS.out.at3) 0 rfl))
  clear hc958
  obtain ⟨t964, HA965, H⟩ := bind_some H
  refine (ground_within.calls a906 t943.1 0 t964 _ ⟨Sep.start _⟩ HA965).mono ?_
  rintro e_ w966 ⟨rfl, hS⟩
  replace HS : Aside0 (Sep FF w [b7 g892 g894 a902 a903 a904 a905, b6 g894 A897 l896.length n899 a901, r5 A897 l896.length n899 l896, b1 g946 t943.1 t943.2.1 t943.2.2.1 t943.2.2.2] w966) := ⟨HS.out.call hS⟩
  clear hS
  by_cases c967 : t964 = (-1)
  · have H := if_yes c967 H
    have c967b0 : (t964 == (-1)) = true := beq_iff_eq.mpr c967
    have c967b1 : (t964 != (-1)) = false := bne_eq_false_iff_eq.mpr c967
    clear c967
    replace HS : Aside0 (Sep FF w [b7 g892 g894 a902 a903 a904 a905, b6 g894 A897 l896.length n899 a901, r5 A897 l896.length n899 l896] w966) := ⟨HS.out.sub (.cons_cons _ (.cons_cons _ (.cons_cons _ (.cons _ .slnil))))⟩
    go_wp2_with fail
    go_ret
    rw [← some_eq H]
    exact ⟨(by first | rfl | (simp [IntKind.wrap_u32]; done)), HS.out⟩
  · have H := if_no c967 H
    have c967b0 : (t964 == (-1)) = false := beq_eq_false_iff_ne.mpr c967
    have c967b1 : (t964 != (-1)) = true := bne_iff_ne.mpr c967
    clear c967
    have hc968 : w966.cell? ⟨g946, 1, none⟩ = some (.int .i64 t943.2.1) := blk_cellv (HS.out.at3) 1 rfl
    have hc969 : w966.cell? ⟨g946, 2, none⟩ = some (.int .i64 t943.2.2.1) := blk_cellv (HS.out.at3) 2 rfl
    go_wp2_with fail
    clear hc968 hc969
    obtain ⟨t970, HA971, H⟩ := bind_some H
    refine (ground_within.calls a907 t943.2.1 (wrap64 ((wrap64 (24 + t943.2.2.1)) + (wrap64 (a906 * t943.2.1)))) t970 _ ⟨Sep.start _⟩ HA971).mono ?_
    rintro e_ w972 ⟨rfl, hS⟩
    replace HS : Aside0 (Sep FF w [b7 g892 g894 a902 a903 a904 a905, b6 g894 A897 l896.length n899 a901, r5 A897 l896.length n899 l896, b1 g946 t943.1 t943.2.1 t943.2.2.1 t943.2.2.2] w972) := ⟨HS.out.call hS⟩
    clear hS
    replace HS : Aside0 (Sep FF w [b7 g892 g894 a902 a903 a904 a905, b6 g894 A897 l896.length n899 a901, r5 A897 l896.length n899 l896] w972) := ⟨HS.out.sub (.cons_cons _ (.cons_cons _ (.cons_cons _ (.cons _ .slnil))))⟩
    go_wp2_with fail
    go_ret
    rw [← some_eq H]
    exact ⟨(by first | rfl | (simp [IntKind.wrap_u32]; done)), HS.out⟩

set_option maxHeartbeats 30000000 in
set_option maxRecDepth 100000 in
theorem store_Store_has.calls (l990 : List Int) (a995 : Int) (a996 : Int) (g988 : Nat) (A991 : Option Addr) (m992 : Nat) (n993 : Nat) (r : Bool) (w : World)   (HS : Aside0 (Sep (fps [b6 g988 A991 m992 n993 a995, r5 A991 m992 n993 l990]) w [b6 g988 A991 m992 n993 a995, r5 A991 m992 n993 l990] w)) (H : Aside0 (store_Store_has.f l990 a995 a996 = some r)) :
    Calls Try.prog 69 #[.pointer (some ⟨g988, 0, none⟩), .int .i64 a996] w fun e w' => e = .returned (.bool r) ∧ Sep (fps [b6 g988 A991 m992 n993 a995, r5 A991 m992 n993 l990]) w [b6 g988 A991 m992 n993 a995, r5 A991 m992 n993 l990] w' := by
  generalize (fps [b6 g988 A991 m992 n993 a995, r5 A991 m992 n993 l990]) = FF at HS ⊢
  obtain rfl := (row_len (HS.out.at1)).symm
  unfold store_Store_has.f at H
  go_enter Try.func69, Try.ntmps69
  by_cases c997 : a996 ≥ 0
  · have H := if_yes c997 H
    have c997b0 : decide (0 ≤ a996) = true := decide_eq_true c997
    clear c997
    have hc998 : w.cell? ⟨g988, 0, none⟩ = some (.slice A991 l990.length n993) := blk_cellv (HS.out.at0) 0 rfl
    go_wp2_with fail
    clear hc998
    go_ret
    rw [← some_eq H]
    exact ⟨(by first | rfl | (simp [IntKind.wrap_u32]; done)), HS.out⟩
  · have H := if_no c997 H
    have c997b0 : decide (0 ≤ a996) = false := decide_eq_false c997
    clear c997
    go_wp2_with fail
    go_ret
    rw [← some_eq H]
    exact ⟨(by first | rfl | (simp [IntKind.wrap_u32]; done)), HS.out⟩

set_option maxHeartbeats 30000000 in
set_option maxRecDepth 100000 in
theorem atomic_Uint64_Add.calls (l1006 : List Int) (a1011 : Int) (a1012 : Int) (g1004 : Nat) (A1007 : Option Addr) (m1008 : Nat) (n1009 : Nat) (r : Int × Int) (w : World)   (HS : Aside0 (Sep (fps [b6 g1004 A1007 m1008 n1009 a1011, r5 A1007 m1008 n1009 l1006]) w [b6 g1004 A1007 m1008 n1009 a1011, r5 A1007 m1008 n1009 l1006] w)) (H : Aside0 (atomic_Uint64_Add.f l1006 a1011 a1012 = some r)) :
    Calls Try.prog 71 #[.pointer (some ⟨g1004, 1, none⟩), .int .u64 a1012] w fun e w' => e = .returned (.int .u64 r.1) ∧ Sep (fps [b6 g1004 A1007 m1008 n1009 a1011, r5 A1007 m1008 n1009 l1006]) w [b6 g1004 A1007 m1008 n1009 r.2, r5 A1007 m1008 n1009 l1006] w' := by
  generalize (fps [b6 g1004 A1007 m1008 n1009 a1011, r5 A1007 m1008 n1009 l1006]) = FF at HS ⊢
  obtain rfl := (row_len (HS.out.at1)).symm
  unfold atomic_Uint64_Add.f at H
  go_enter Try.func71, Try.ntmps71
  obtain ⟨y1022, HA1023, H⟩ := bind_some H
  have hc1019 : w.cell? ⟨g1004, 1, none⟩ = some (.int .u64 a1011) := blk_cellv (HS.out.at0) 1 rfl
  have hz1021 : w.frozen? ⟨g1004, 1, none⟩ = false := blk_fz (HS.out.at0) 1
  have hn1020 : (callFunc 104 #[.pointer (some ⟨g1004, 1, none⟩), .int .u64 a1012]).run Try.prog w = .ok (.value (.int .u64 y1022)) ((World.setCell w ⟨g1004, 1, none⟩ (.int .u64 y1022))) := (some_eq HA1023) ▸ run_call_add Try.func104 (by kernel_rfl) (by kernel_rfl) (by kernel_rfl) .u64 (by kernel_rfl) hc1019 hz1021 (by rfl)
  go_wp2_with (first | ((with_reducible refine gate_dst (N := 9) rfl ?_); refine run_on2 (by rfl) (w1 := (World.setCell w ⟨g1004, 1, none⟩ (.int .u64 y1022))) (v := .int .u64 y1022) ?hr ?_; (case hr => first | (go_simp; done) | (go_simp; rfl)); intro w1024 hst; clear hc1019 hz1021; have hq0 : Sep FF w [b6 g1004 A1007 l1006.length n1009 y1022, r5 A1007 l1006.length n1009 l1006] (World.setCell w ⟨g1004, 1, none⟩ (.int .u64 y1022)) := (HS.out).set1 (l1 := []) (l2 := [r5 A1007 l1006.length n1009 l1006]) 1 (.int .u64 y1022); replace HS : Aside0 (Sep FF w [b6 g1004 A1007 l1006.length n1009 y1022, r5 A1007 l1006.length n1009 l1006] w1024) := ⟨by rw [hst]; exact hq0⟩; clear hst hn1020 hq0))
  go_ret
  rw [← some_eq H]
  exact ⟨(by first | rfl | (simp [IntKind.wrap_u32]; done)), HS.out⟩

set_option maxHeartbeats 30000000 in
set_option maxRecDepth 100000 in
theorem store_Store_Put.calls (l979 : List Int) (a984 : Int) (a985 : Int) (a986 : Int) (g977 : Nat) (A980 : Option Addr) (m981 : Nat) (n982 : Nat) (r : Bool × Int × List Int) (w : World)   (HS : Aside0 (Sep (fps [b6 g977 A980 m981 n982 a984, r5 A980 m981 n982 l979]) w [b6 g977 A980 m981 n982 a984, r5 A980 m981 n982 l979] w)) (H : Aside0 (store_Store_Put.f l979 a984 a985 a986 = some r)) :
    Calls Try.prog 22 #[.pointer (some ⟨g977, 0, none⟩), .int .i64 a985, .int .u32 a986] w fun e w' => e = .returned (.bool r.1) ∧ Sep (fps [b6 g977 A980 m981 n982 a984, r5 A980 m981 n982 l979]) w [b6 g977 A980 m981 n982 r.2.1, r5 A980 m981 n982 r.2.2] w' := by
  generalize (fps [b6 g977 A980 m981 n982 a984, r5 A980 m981 n982 l979]) = FF at HS ⊢
  obtain rfl := (row_len (HS.out.at1)).symm
  unfold store_Store_Put.f at H
  go_enter Try.func22, Try.ntmps22
  go_wp2_with fail
  obtain ⟨t1037, HA1038, H⟩ := bind_some H
  refine (store_Store_has.calls l979 a984 a985 g977 A980 l979.length n982 t1037 _ ⟨HS.out.begin⟩ HA1038).mono ?_
  rintro e_ w1039 ⟨rfl, hS⟩
  replace HS : Aside0 (Sep FF w [b6 g977 A980 l979.length n982 a984, r5 A980 l979.length n982 l979] w1039) := ⟨HS.out.call hS⟩
  clear hS
  by_cases c1040 : t1037 = true
  · have H := if_yes c1040 H
    have c1040b0 : t1037 = true := c1040
    have c1040b1 : (!t1037) = false := by rw [c1040b0]; rfl
    try rw [c1040b1]
    clear c1040
    go_wp2_with fail
    obtain ⟨t1041, HA1042, H⟩ := bind_some H
    refine (atomic_Uint64_Add.calls l979 a984 1 g977 A980 l979.length n982 t1041 _ ⟨HS.out.begin⟩ HA1042).mono ?_
    rintro e_ w1043 ⟨rfl, hS⟩
    replace HS : Aside0 (Sep FF w [b6 g977 A980 l979.length n982 t1041.2, r5 A980 l979.length n982 l979] w1043) := ⟨HS.out.call hS⟩
    clear hS
    by_cases c1045 : 0 ≤ a985
    · have H := if_yes c1045 H
      have c1045b0 : decide (0 ≤ a985) = true := decide_eq_true c1045
      have c1045p : (0 ≤ a985) = True := eq_true c1045
      clear c1045
      by_cases c1046 : a985 < (l979.length : Int)
      · have H := if_yes c1046 H
        have c1046b0 : decide (a985 < (l979.length : Int)) = true := decide_eq_true c1046
        have c1046p : (a985 < (l979.length : Int)) = True := eq_true c1046
        clear c1046
        obtain ⟨y1049, HA1050, H⟩ := bind_some H
        have hc1044 : w1043.cell? ⟨g977, 0, none⟩ = some (.slice A980 l979.length n982) := blk_cellv (HS.out.at0) 0 rfl
        obtain ⟨g1047, ea⟩ := row_at (HS.out.at1) (by have := (of_decide_eq_true c1045b0); have := (of_decide_eq_true c1046b0); omega); cases ea
        have hx1051 := (row_get 0 (HS.out.at1) a985 (of_decide_eq_true c1045b0) (of_decide_eq_true c1046b0)).1
        have hz1052 := (row_get 0 (HS.out.at1) a985 (of_decide_eq_true c1045b0) (of_decide_eq_true c1046b0)).2
        go_wp2_with (first | ((with_reducible refine gate_store (t := 23) (p := 21) rfl ?_); refine store_event (w1 := World.setCell w1043 ⟨g1047, (a985).toNat, none⟩ (.int .u32 a986)) rfl (t := 23) (p := 21) rfl rfl ?hr ?_; (case hr => first | (go_simp; done) | (go_simp; rfl)); intro w1048 hst; clear hc1044 hx1051 hz1052; have hq := Sep.rowset (l1 := [b6 g977 (some ⟨g1047, 0, none⟩) l979.length n982 t1041.2]) (l2 := []) HS.out a985 a986; rw [← hst, some_eq HA1050] at hq; replace HS : Aside0 (Sep FF w [b6 g977 (some ⟨g1047, 0, none⟩) l979.length n982 t1041.2, r5 (some ⟨g1047, 0, none⟩) l979.length n982 y1049] w1048) := ⟨hq⟩; clear hst hq))
        go_ret
        rw [← some_eq H]
        exact ⟨(by first | rfl | (simp [IntKind.wrap_u32]; done)), HS.out⟩
      · have H := if_no c1046 H
        have c1046b0 : decide (a985 < (l979.length : Int)) = false := decide_eq_false c1046
        clear c1046
        exact (none_no H).elim
    · have H := if_no c1045 H
      have c1045b0 : decide (0 ≤ a985) = false := decide_eq_false c1045
      clear c1045
      exact (none_no H).elim
  · have H := if_no c1040 H
    have c1040b0 : t1037 = false := by simpa using c1040
    have c1040b1 : (!t1037) = true := by rw [c1040b0]; rfl
    try rw [c1040b1]
    clear c1040
    go_wp2_with fail
    go_ret
    rw [← some_eq H]
    exact ⟨(by first | rfl | (simp [IntKind.wrap_u32]; done)), HS.out⟩

set_option maxHeartbeats 30000000 in
set_option maxRecDepth 100000 in
theorem ground_Ground_SetWord.calls (l859 : List Int) (a864 : Int) (a865 : Int) (a866 : Int) (a867 : Int) (a868 : Int) (a869 : Int) (a870 : Int) (a871 : Int) (g855 : Nat) (g857 : Nat) (A860 : Option Addr) (m861 : Nat) (n862 : Nat) (r : Bool × Int × List Int) (w : World)   (HS : Aside0 (Sep (fps [b7 g855 g857 a865 a866 a867 a868, b6 g857 A860 m861 n862 a864, r5 A860 m861 n862 l859]) w [b7 g855 g857 a865 a866 a867 a868, b6 g857 A860 m861 n862 a864, r5 A860 m861 n862 l859] w)) (H : Aside0 (ground_Ground_SetWord.f l859 a864 a865 a866 a867 a868 a869 a870 a871 = some r)) :
    Calls Try.prog 46 #[.pointer (some ⟨g855, 0, none⟩), .int .i64 a869, .int .i64 a870, .int .u32 a871] w fun e w' => e = .returned (.bool r.1) ∧ Sep (fps [b7 g855 g857 a865 a866 a867 a868, b6 g857 A860 m861 n862 a864, r5 A860 m861 n862 l859]) w [b7 g855 g857 a865 a866 a867 a868, b6 g857 A860 m861 n862 r.2.1, r5 A860 m861 n862 r.2.2] w' := by
  generalize (fps [b7 g855 g857 a865 a866 a867 a868, b6 g857 A860 m861 n862 a864, r5 A860 m861 n862 l859]) = FF at HS ⊢
  obtain rfl := (row_len (HS.out.at2)).symm
  unfold ground_Ground_SetWord.f at H
  go_enter Try.func46, Try.ntmps46
  go_wp2_with fail
  obtain ⟨t1056, HA1057, H⟩ := bind_some H
  refine (ground_Ground_all.calls l859 a864 a865 a866 a867 a868 g855 g857 A860 l859.length n862 t1056 _ ⟨HS.out.begin⟩ HA1057).mono ?_
  rintro e_ w1058 ⟨rfl, hS⟩
  replace HS : Aside0 (Sep FF w [b7 g855 g857 a865 a866 a867 a868, b6 g857 A860 l859.length n862 a864, r5 A860 l859.length n862 l859] w1058) := ⟨HS.out.call hS⟩
  clear hS
  go_wp2_with fail
  obtain ⟨t1059, HA1060, H⟩ := bind_some H
  refine (ground_Ground_word.calls l859 a864 a865 a866 a867 a868 a869 a870 g855 g857 A860 l859.length n862 t1059 _ ⟨HS.out.begin⟩ HA1060).mono ?_
  rintro e_ w1061 ⟨rfl, hS⟩
  replace HS : Aside0 (Sep FF w [b7 g855 g857 a865 a866 a867 a868, b6 g857 A860 l859.length n862 a864, r5 A860 l859.length n862 l859] w1061) := ⟨HS.out.call hS⟩
  clear hS
  go_wp2_with fail
  replace HS : Aside0 (Sep FF w [r5 A860 l859.length n862 l859, b7 g855 g857 a865 a866 a867 a868, b6 g857 A860 l859.length n862 a864] w1061) := ⟨HS.out.front 2 (by simp)⟩
  replace HS : Aside0 (Sep FF w [b6 g857 A860 l859.length n862 a864, r5 A860 l859.length n862 l859, b7 g855 g857 a865 a866 a867 a868] w1061) := ⟨HS.out.front 2 (by simp)⟩
  obtain ⟨t1062, HA1063, H⟩ := bind_some H
  refine (store_Store_Put.calls l859 a864 t1059 a871 g857 A860 l859.length n862 t1062 _ ⟨HS.out.begin⟩ HA1063).mono ?_
  rintro e_ w1064 ⟨rfl, hS⟩
  replace HS : Aside0 (Sep FF w [b6 g857 A860 l859.length n862 t1062.2.1, r5 A860 l859.length n862 t1062.2.2, b7 g855 g857 a865 a866 a867 a868] w1064) := ⟨HS.out.call hS⟩
  clear hS
  go_wp2_with fail
  go_ret
  rw [← some_eq H]
  exact ⟨(by first | rfl | (simp [IntKind.wrap_u32]; done)), ((((HS.out).front 1 (by simp)).front 1 (by simp)).front 2 (by simp)).keep (l := [b7 g855 g857 a865 a866 a867 a868, b6 g857 A860 l859.length n862 t1062.2.1, r5 A860 l859.length n862 t1062.2.2]) (rest := [])⟩

set_option maxHeartbeats 4000000 in
set_option maxRecDepth 100000 in
theorem slices_Clone_uint32_uint32.calls (l1097 : List Int) (A1098 : Option Addr) (n1099 : Nat) (r : List Int) (w : World) (HR1100 : Aside0 (Rd (Kd.int .u32) (fps []) w A1098 l1097.length l1097))  (HS : Aside0 (Sep (fps []) w [] w)) (H : Aside0 (slices_Clone_uint32_uint32.f l1097 = some r)) :
    Calls Try.prog 72 #[.slice A1098 l1097.length n1099] w fun e w' => ∃ (A1102 : Option Addr) (m1103 : Nat) (n1104 : Nat), e = .returned (.slice A1102 m1103 n1104) ∧ Sep (fps []) w [r5 A1102 m1103 n1104 r] w' := by
  unfold slices_Clone_uint32_uint32.f at H
  by_cases hl : l1097.length ≤ 35184372088832
  · have H := if_yes hl H
    have hr := some_eq H
    subst hr
    have qT : ∀ (w : World) (a : Option Addr) (n c n' c' : Nat), (binOp .eql 22 (.slice a n c) (.slice none n' c')).run Try.prog w = .ok (.bool a.isNone) w := fun w a n c n' c' => Lib.run_eql_slice_nil w _ _ a n c n' c' Try.underlying22
    have HC := Aside0.mk HR1100.out.c
    rcases A1098 with _ | ad
    · have h0 : l1097 = [] := by
        rcases Nat.eq_zero_or_pos l1097.length with h | h
        · exact List.eq_nil_of_length_eq_zero h
        · obtain ⟨ad, e, _⟩ := HC.out.2.2 h
          cases e
      subst h0
      clear HC HR1100 H hl
      go_enter Try.func72, Try.ntmps72
      go_wp2
      go_ret
      exact ⟨_, _, _, rfl, HS.out.nilrow 23 (Value.int .u32)⟩
    · clear HR1100 H
      go_enter Try.func72, Try.ntmps72
      go_wp2_with (first | ((with_reducible refine gate_dst (N := 5) rfl ?_); refine slice_on (n := 0) ?hg (N := 5) ?hd (cs := #[]) (t := 23) ?hr ?_; (case hd => rfl); (case hg => rfl); (case hr => first | (go_simp; done) | (go_simp; rfl)); intro g hg w1 hbox hb; have HS_ : Aside0 (Sep (fps []) w [blk g #[] 23] w1) := ⟨HS.out.box hg hbox hb⟩; have HB := Aside0.mk (Kd.C_below HC.out (HS.out.fr.below.trans hb)); clear HS hg hbox hb HC; have HS := HS_; clear HS_) | ((with_reducible refine gate_dst (N := 7) rfl ?_); refine append_event (l1 := []) (l2 := []) rfl (.tmp 5) (.tmp 6) 22 23 (.int .u32 0) 4 rfl Try.underlying22 (by kernel_rfl) rfl (by decide) (Value.int .u32) (fun _ => rfl) (.slice (some ⟨g, 0, none⟩) 0 0) ([] : List Int) l1097 ad n1099 rfl rfl (C_news HB.out) (Sep.litrow (l1 := []) (l2 := []) (enc := Value.int .u32) (xs := []) (n := 0) HS.out rfl (by decide)) (by simp; omega) ⟨rfl⟩ ?_; intro A1 c1 w2 HS1; have HS_ : Aside0 (Sep (fps []) w [row 23 (Value.int .u32) (.slice A1 l1097.length c1) l1097] w2) := ⟨HS1⟩; clear HS HS1; have HS := HS_; clear HS_))
      go_ret
      exact ⟨_, _, _, rfl, HS.out⟩
  · exact (none_no (if_no hl H)).elim

set_option maxHeartbeats 30000000 in
set_option maxRecDepth 100000 in
theorem store_Store_Words.calls (l1090 : List Int) (a1095 : Int) (g1088 : Nat) (A1091 : Option Addr) (m1092 : Nat) (n1093 : Nat) (r : List Int) (w : World)   (HS : Aside0 (Sep (fps [b6 g1088 A1091 m1092 n1093 a1095, r5 A1091 m1092 n1093 l1090]) w [b6 g1088 A1091 m1092 n1093 a1095, r5 A1091 m1092 n1093 l1090] w)) (H : Aside0 (store_Store_Words.f l1090 a1095 = some r)) :
    Calls Try.prog 24 #[.pointer (some ⟨g1088, 0, none⟩)] w fun e w' => ∃ (A1120 : Option Addr) (m1121 : Nat) (n1122 : Nat), e = .returned (.slice A1120 m1121 n1122) ∧ Sep (fps [b6 g1088 A1091 m1092 n1093 a1095, r5 A1091 m1092 n1093 l1090]) w [b6 g1088 A1091 m1092 n1093 a1095, r5 A1091 m1092 n1093 l1090, r5 A1120 m1121 n1122 r] w' := by
  generalize (fps [b6 g1088 A1091 m1092 n1093 a1095, r5 A1091 m1092 n1093 l1090]) = FF at HS ⊢
  obtain rfl := (row_len (HS.out.at1)).symm
  unfold store_Store_Words.f at H
  go_enter Try.func24, Try.ntmps24
  have hc1096 : w.cell? ⟨g1088, 0, none⟩ = some (.slice A1091 l1090.length n1093) := blk_cellv (HS.out.at0) 0 rfl
  go_wp2_with fail
  clear hc1096
  obtain ⟨t1106, HA1107, H⟩ := bind_some H
  refine (slices_Clone_uint32_uint32.calls l1090 A1091 n1093 t1106 _ ⟨Rd.ownI (l := []) HS.out 1 rfl⟩ ⟨Sep.start _⟩ HA1107).mono ?_
  rintro e_ w1108 ⟨A1110, m1111, n1112, rfl, hS⟩
  replace HS : Aside0 (Sep FF w [r5 A1110 m1111 n1112 t1106, b6 g1088 A1091 l1090.length n1093 a1095, r5 A1091 l1090.length n1093 l1090] w1108) := ⟨HS.out.call hS⟩
  clear hS
  obtain rfl := (row_len (HS.out.at0)).symm
  go_wp2_with fail
  go_ret
  rw [← some_eq H]
  exact ⟨A1110, t1106.length, n1112, (by first | rfl | (simp [IntKind.wrap_u32]; done)), (((HS.out).front 2 (by simp)).front 2 (by simp)).keep (l := [b6 g1088 A1091 l1090.length n1093 a1095, r5 A1091 l1090.length n1093 l1090, r5 A1110 t1106.length n1112 t1106]) (rest := [])⟩

set_option maxHeartbeats 30000000 in
set_option maxRecDepth 100000 in
theorem ground_Ground_Words.calls (l1074 : List Int) (a1079 : Int) (a1080 : Int) (a1081 : Int) (a1082 : Int) (a1083 : Int) (g1070 : Nat) (g1072 : Nat) (A1075 : Option Addr) (m1076 : Nat) (n1077 : Nat) (r : List Int) (w : World)   (HS : Aside0 (Sep (fps [b7 g1070 g1072 a1080 a1081 a1082 a1083, b6 g1072 A1075 m1076 n1077 a1079, r5 A1075 m1076 n1077 l1074]) w [b7 g1070 g1072 a1080 a1081 a1082 a1083, b6 g1072 A1075 m1076 n1077 a1079, r5 A1075 m1076 n1077 l1074] w)) (H : Aside0 (ground_Ground_Words.f l1074 a1079 a1080 a1081 a1082 a1083 = some r)) :
    Calls Try.prog 33 #[.pointer (some ⟨g1070, 0, none⟩)] w fun e w' => ∃ (A1138 : Option Addr) (m1139 : Nat) (n1140 : Nat), e = .returned (.slice A1138 m1139 n1140) ∧ Sep (fps [b7 g1070 g1072 a1080 a1081 a1082 a1083, b6 g1072 A1075 m1076 n1077 a1079, r5 A1075 m1076 n1077 l1074]) w [b7 g1070 g1072 a1080 a1081 a1082 a1083, b6 g1072 A1075 m1076 n1077 a1079, r5 A1075 m1076 n1077 l1074, r5 A1138 m1139 n1140 r] w' := by
  generalize (fps [b7 g1070 g1072 a1080 a1081 a1082 a1083, b6 g1072 A1075 m1076 n1077 a1079, r5 A1075 m1076 n1077 l1074]) = FF at HS ⊢
  obtain rfl := (row_len (HS.out.at2)).symm
  unfold ground_Ground_Words.f at H
  go_enter Try.func33, Try.ntmps33
  go_wp2_with fail
  obtain ⟨t1084, HA1085, H⟩ := bind_some H
  refine (ground_Ground_all.calls l1074 a1079 a1080 a1081 a1082 a1083 g1070 g1072 A1075 l1074.length n1077 t1084 _ ⟨HS.out.begin⟩ HA1085).mono ?_
  rintro e_ w1086 ⟨rfl, hS⟩
  replace HS : Aside0 (Sep FF w [b7 g1070 g1072 a1080 a1081 a1082 a1083, b6 g1072 A1075 l1074.length n1077 a1079, r5 A1075 l1074.length n1077 l1074] w1086) := ⟨HS.out.call hS⟩
  clear hS
  go_wp2_with fail
  replace HS : Aside0 (Sep FF w [r5 A1075 l1074.length n1077 l1074, b7 g1070 g1072 a1080 a1081 a1082 a1083, b6 g1072 A1075 l1074.length n1077 a1079] w1086) := ⟨HS.out.front 2 (by simp)⟩
  replace HS : Aside0 (Sep FF w [b6 g1072 A1075 l1074.length n1077 a1079, r5 A1075 l1074.length n1077 l1074, b7 g1070 g1072 a1080 a1081 a1082 a1083] w1086) := ⟨HS.out.front 2 (by simp)⟩
  obtain ⟨t1124, HA1125, H⟩ := bind_some H
  refine (store_Store_Words.calls l1074 a1079 g1072 A1075 l1074.length n1077 t1124 _ ⟨HS.out.begin⟩ HA1125).mono ?_
  rintro e_ w1126 ⟨A1128, m1129, n1130, rfl, hS⟩
  replace HS : Aside0 (Sep FF w [b6 g1072 A1075 l1074.length n1077 a1079, r5 A1075 l1074.length n1077 l1074, r5 A1128 m1129 n1130 t1124, b7 g1070 g1072 a1080 a1081 a1082 a1083] w1126) := ⟨HS.out.call hS⟩
  clear hS
  obtain rfl := (row_len (HS.out.at2)).symm
  go_wp2_with fail
  go_ret
  rw [← some_eq H]
  exact ⟨A1128, t1124.length, n1130, (by first | rfl | (simp [IntKind.wrap_u32]; done)), (((((HS.out).front 2 (by simp)).front 2 (by simp)).front 2 (by simp)).front 3 (by simp)).keep (l := [b7 g1070 g1072 a1080 a1081 a1082 a1083, b6 g1072 A1075 l1074.length n1077 a1079, r5 A1075 l1074.length n1077 l1074, r5 A1128 t1124.length n1130 t1124]) (rest := [])⟩

set_option maxHeartbeats 30000000 in
set_option maxRecDepth 100000 in
theorem atomic_Uint64_Load.calls (l1186 : List Int) (a1191 : Int) (g1184 : Nat) (A1187 : Option Addr) (m1188 : Nat) (n1189 : Nat) (r : Int) (w : World)   (HS : Aside0 (Sep (fps [b6 g1184 A1187 m1188 n1189 a1191, r5 A1187 m1188 n1189 l1186]) w [b6 g1184 A1187 m1188 n1189 a1191, r5 A1187 m1188 n1189 l1186] w)) (H : Aside0 (atomic_Uint64_Load.f l1186 a1191 = some r)) :
    Calls Try.prog 70 #[.pointer (some ⟨g1184, 1, none⟩)] w fun e w' => e = .returned (.int .u64 r) ∧ Sep (fps [b6 g1184 A1187 m1188 n1189 a1191, r5 A1187 m1188 n1189 l1186]) w [b6 g1184 A1187 m1188 n1189 a1191, r5 A1187 m1188 n1189 l1186] w' := by
  generalize (fps [b6 g1184 A1187 m1188 n1189 a1191, r5 A1187 m1188 n1189 l1186]) = FF at HS ⊢
  obtain rfl := (row_len (HS.out.at1)).symm
  unfold atomic_Uint64_Load.f at H
  go_enter Try.func70, Try.ntmps70
  have hc1192 : w.cell? ⟨g1184, 1, none⟩ = some (.int .u64 a1191) := blk_cellv (HS.out.at0) 1 rfl
  have hn1193 : (callFunc 103 #[.pointer (some ⟨g1184, 1, none⟩)]).run Try.prog w = .ok (.value (.int .u64 a1191)) w := run_call_load Try.func103 (by kernel_rfl) (by kernel_rfl) (by kernel_rfl) .u64 (by kernel_rfl) hc1192
  go_wp2_with (first | ((with_reducible refine gate_dst (N := 6) rfl ?_); refine run_on2 (by rfl) (w1 := w) (v := .int .u64 a1191) ?hr ?_; (case hr => first | (go_simp; done) | (go_simp; rfl)); intro w1194 hst; clear hc1192; replace HS : Aside0 (Sep FF w [b6 g1184 A1187 l1186.length n1189 a1191, r5 A1187 l1186.length n1189 l1186] w1194) := ⟨by rw [hst]; exact HS.out⟩; clear hst hn1193))
  go_ret
  rw [← some_eq H]
  exact ⟨(by first | rfl | (simp [IntKind.wrap_u32]; done)), HS.out⟩

set_option maxHeartbeats 30000000 in
set_option maxRecDepth 100000 in
theorem store_Store_Meter.calls (l1177 : List Int) (a1182 : Int) (g1175 : Nat) (A1178 : Option Addr) (m1179 : Nat) (n1180 : Nat) (r : Int) (w : World)   (HS : Aside0 (Sep (fps [b6 g1175 A1178 m1179 n1180 a1182, r5 A1178 m1179 n1180 l1177]) w [b6 g1175 A1178 m1179 n1180 a1182, r5 A1178 m1179 n1180 l1177] w)) (H : Aside0 (store_Store_Meter.f l1177 a1182 = some r)) :
    Calls Try.prog 21 #[.pointer (some ⟨g1175, 0, none⟩)] w fun e w' => e = .returned (.int .u64 r) ∧ Sep (fps [b6 g1175 A1178 m1179 n1180 a1182, r5 A1178 m1179 n1180 l1177]) w [b6 g1175 A1178 m1179 n1180 a1182, r5 A1178 m1179 n1180 l1177] w' := by
  generalize (fps [b6 g1175 A1178 m1179 n1180 a1182, r5 A1178 m1179 n1180 l1177]) = FF at HS ⊢
  obtain rfl := (row_len (HS.out.at1)).symm
  unfold store_Store_Meter.f at H
  go_enter Try.func21, Try.ntmps21
  go_wp2_with fail
  obtain ⟨t1195, HA1196, H⟩ := bind_some H
  refine (atomic_Uint64_Load.calls l1177 a1182 g1175 A1178 l1177.length n1180 t1195 _ ⟨HS.out.begin⟩ HA1196).mono ?_
  rintro e_ w1197 ⟨rfl, hS⟩
  replace HS : Aside0 (Sep FF w [b6 g1175 A1178 l1177.length n1180 a1182, r5 A1178 l1177.length n1180 l1177] w1197) := ⟨HS.out.call hS⟩
  clear hS
  go_wp2_with fail
  go_ret
  rw [← some_eq H]
  exact ⟨(by first | rfl | (simp [IntKind.wrap_u32]; done)), HS.out⟩

set_option maxHeartbeats 30000000 in
set_option maxRecDepth 100000 in
theorem ground_Ground_Meter.calls (l1161 : List Int) (a1166 : Int) (a1167 : Int) (a1168 : Int) (a1169 : Int) (a1170 : Int) (g1157 : Nat) (g1159 : Nat) (A1162 : Option Addr) (m1163 : Nat) (n1164 : Nat) (r : Int) (w : World)   (HS : Aside0 (Sep (fps [b7 g1157 g1159 a1167 a1168 a1169 a1170, b6 g1159 A1162 m1163 n1164 a1166, r5 A1162 m1163 n1164 l1161]) w [b7 g1157 g1159 a1167 a1168 a1169 a1170, b6 g1159 A1162 m1163 n1164 a1166, r5 A1162 m1163 n1164 l1161] w)) (H : Aside0 (ground_Ground_Meter.f l1161 a1166 a1167 a1168 a1169 a1170 = some r)) :
    Calls Try.prog 35 #[.pointer (some ⟨g1157, 0, none⟩)] w fun e w' => e = .returned (.int .u64 r) ∧ Sep (fps [b7 g1157 g1159 a1167 a1168 a1169 a1170, b6 g1159 A1162 m1163 n1164 a1166, r5 A1162 m1163 n1164 l1161]) w [b7 g1157 g1159 a1167 a1168 a1169 a1170, b6 g1159 A1162 m1163 n1164 a1166, r5 A1162 m1163 n1164 l1161] w' := by
  generalize (fps [b7 g1157 g1159 a1167 a1168 a1169 a1170, b6 g1159 A1162 m1163 n1164 a1166, r5 A1162 m1163 n1164 l1161]) = FF at HS ⊢
  obtain rfl := (row_len (HS.out.at2)).symm
  unfold ground_Ground_Meter.f at H
  go_enter Try.func35, Try.ntmps35
  go_wp2_with fail
  obtain ⟨t1171, HA1172, H⟩ := bind_some H
  refine (ground_Ground_all.calls l1161 a1166 a1167 a1168 a1169 a1170 g1157 g1159 A1162 l1161.length n1164 t1171 _ ⟨HS.out.begin⟩ HA1172).mono ?_
  rintro e_ w1173 ⟨rfl, hS⟩
  replace HS : Aside0 (Sep FF w [b7 g1157 g1159 a1167 a1168 a1169 a1170, b6 g1159 A1162 l1161.length n1164 a1166, r5 A1162 l1161.length n1164 l1161] w1173) := ⟨HS.out.call hS⟩
  clear hS
  go_wp2_with fail
  replace HS : Aside0 (Sep FF w [r5 A1162 l1161.length n1164 l1161, b7 g1157 g1159 a1167 a1168 a1169 a1170, b6 g1159 A1162 l1161.length n1164 a1166] w1173) := ⟨HS.out.front 2 (by simp)⟩
  replace HS : Aside0 (Sep FF w [b6 g1159 A1162 l1161.length n1164 a1166, r5 A1162 l1161.length n1164 l1161, b7 g1157 g1159 a1167 a1168 a1169 a1170] w1173) := ⟨HS.out.front 2 (by simp)⟩
  obtain ⟨t1198, HA1199, H⟩ := bind_some H
  refine (store_Store_Meter.calls l1161 a1166 g1159 A1162 l1161.length n1164 t1198 _ ⟨HS.out.begin⟩ HA1199).mono ?_
  rintro e_ w1200 ⟨rfl, hS⟩
  replace HS : Aside0 (Sep FF w [b6 g1159 A1162 l1161.length n1164 a1166, r5 A1162 l1161.length n1164 l1161, b7 g1157 g1159 a1167 a1168 a1169 a1170] w1200) := ⟨HS.out.call hS⟩
  clear hS
  go_wp2_with fail
  go_ret
  rw [← some_eq H]
  exact ⟨(by first | rfl | (simp [IntKind.wrap_u32]; done)), ((((HS.out).front 1 (by simp)).front 1 (by simp)).front 2 (by simp)).keep (l := [b7 g1157 g1159 a1167 a1168 a1169 a1170, b6 g1159 A1162 l1161.length n1164 a1166, r5 A1162 l1161.length n1164 l1161]) (rest := [])⟩

set_option maxHeartbeats 30000000 in
set_option maxRecDepth 100000 in
theorem store_Store_Peek.calls (l1231 : List Int) (a1236 : Int) (a1237 : Int) (g1229 : Nat) (A1232 : Option Addr) (m1233 : Nat) (n1234 : Nat) (r : Int) (w : World)   (HS : Aside0 (Sep (fps [b6 g1229 A1232 m1233 n1234 a1236, r5 A1232 m1233 n1234 l1231]) w [b6 g1229 A1232 m1233 n1234 a1236, r5 A1232 m1233 n1234 l1231] w)) (H : Aside0 (store_Store_Peek.f l1231 a1236 a1237 = some r)) :
    Calls Try.prog 20 #[.pointer (some ⟨g1229, 0, none⟩), .int .i64 a1237] w fun e w' => e = .returned (.int .u32 r) ∧ Sep (fps [b6 g1229 A1232 m1233 n1234 a1236, r5 A1232 m1233 n1234 l1231]) w [b6 g1229 A1232 m1233 n1234 a1236, r5 A1232 m1233 n1234 l1231] w' := by
  generalize (fps [b6 g1229 A1232 m1233 n1234 a1236, r5 A1232 m1233 n1234 l1231]) = FF at HS ⊢
  obtain rfl := (row_len (HS.out.at1)).symm
  unfold store_Store_Peek.f at H
  go_enter Try.func20, Try.ntmps20
  go_wp2_with fail
  obtain ⟨t1238, HA1239, H⟩ := bind_some H
  refine (store_Store_has.calls l1231 a1236 a1237 g1229 A1232 l1231.length n1234 t1238 _ ⟨HS.out.begin⟩ HA1239).mono ?_
  rintro e_ w1240 ⟨rfl, hS⟩
  replace HS : Aside0 (Sep FF w [b6 g1229 A1232 l1231.length n1234 a1236, r5 A1232 l1231.length n1234 l1231] w1240) := ⟨HS.out.call hS⟩
  clear hS
  by_cases c1241 : t1238 = true
  · have H := if_yes c1241 H
    have c1241b0 : t1238 = true := c1241
    have c1241b1 : (!t1238) = false := by rw [c1241b0]; rfl
    try rw [c1241b1]
    clear c1241
    by_cases c1243 : 0 ≤ a1237
    · have H := if_yes c1243 H
      have c1243b0 : decide (0 ≤ a1237) = true := decide_eq_true c1243
      have c1243p : (0 ≤ a1237) = True := eq_true c1243
      clear c1243
      by_cases c1244 : a1237 < (l1231.length : Int)
      · have H := if_yes c1244 H
        have c1244b0 : decide (a1237 < (l1231.length : Int)) = true := decide_eq_true c1244
        have c1244p : (a1237 < (l1231.length : Int)) = True := eq_true c1244
        clear c1244
        have hc1242 : w1240.cell? ⟨g1229, 0, none⟩ = some (.slice A1232 l1231.length n1234) := blk_cellv (HS.out.at0) 0 rfl
        obtain ⟨g1245, ea⟩ := row_at (HS.out.at1) (by have := (of_decide_eq_true c1243b0); have := (of_decide_eq_true c1244b0); omega); cases ea
        have hx1246 := C_at_int (row_Ci (HS.out.at1)) a1237 (of_decide_eq_true c1243b0) (of_decide_eq_true c1244b0)
        have hx1247 : w1240.cell? ⟨g1245, (a1237).toNat, none⟩ = some (.int .u32 (rd l1231 a1237)) := (row_get 0 (HS.out.at1) a1237 (of_decide_eq_true c1243b0) (of_decide_eq_true c1244b0)).1
        go_wp2_with fail
        clear hc1242 hx1246 hx1247
        go_ret
        rw [← some_eq H]
        exact ⟨(by first | rfl | (simp [IntKind.wrap_u32]; done)), HS.out⟩
      · have H := if_no c1244 H
        have c1244b0 : decide (a1237 < (l1231.length : Int)) = false := decide_eq_false c1244
        clear c1244
        exact (none_no H).elim
    · have H := if_no c1243 H
      have c1243b0 : decide (0 ≤ a1237) = false := decide_eq_false c1243
      clear c1243
      exact (none_no H).elim
  · have H := if_no c1241 H
    have c1241b0 : t1238 = false := by simpa using c1241
    have c1241b1 : (!t1238) = true := by rw [c1241b0]; rfl
    try rw [c1241b1]
    clear c1241
    go_wp2_with fail
    go_ret
    rw [← some_eq H]
    exact ⟨(by first | rfl | (simp [IntKind.wrap_u32]; done)), HS.out⟩

set_option maxHeartbeats 30000000 in
set_option maxRecDepth 100000 in
theorem ground_Ground_SeeWord.calls (l1210 : List Int) (a1215 : Int) (a1216 : Int) (a1217 : Int) (a1218 : Int) (a1219 : Int) (a1220 : Int) (a1221 : Int) (g1206 : Nat) (g1208 : Nat) (A1211 : Option Addr) (m1212 : Nat) (n1213 : Nat) (r : Int) (w : World)   (HS : Aside0 (Sep (fps [b7 g1206 g1208 a1216 a1217 a1218 a1219, b6 g1208 A1211 m1212 n1213 a1215, r5 A1211 m1212 n1213 l1210]) w [b7 g1206 g1208 a1216 a1217 a1218 a1219, b6 g1208 A1211 m1212 n1213 a1215, r5 A1211 m1212 n1213 l1210] w)) (H : Aside0 (ground_Ground_SeeWord.f l1210 a1215 a1216 a1217 a1218 a1219 a1220 a1221 = some r)) :
    Calls Try.prog 50 #[.pointer (some ⟨g1206, 0, none⟩), .int .i64 a1220, .int .i64 a1221] w fun e w' => e = .returned (.int .u32 r) ∧ Sep (fps [b7 g1206 g1208 a1216 a1217 a1218 a1219, b6 g1208 A1211 m1212 n1213 a1215, r5 A1211 m1212 n1213 l1210]) w [b7 g1206 g1208 a1216 a1217 a1218 a1219, b6 g1208 A1211 m1212 n1213 a1215, r5 A1211 m1212 n1213 l1210] w' := by
  generalize (fps [b7 g1206 g1208 a1216 a1217 a1218 a1219, b6 g1208 A1211 m1212 n1213 a1215, r5 A1211 m1212 n1213 l1210]) = FF at HS ⊢
  obtain rfl := (row_len (HS.out.at2)).symm
  unfold ground_Ground_SeeWord.f at H
  go_enter Try.func50, Try.ntmps50
  go_wp2_with fail
  obtain ⟨t1222, HA1223, H⟩ := bind_some H
  refine (ground_Ground_all.calls l1210 a1215 a1216 a1217 a1218 a1219 g1206 g1208 A1211 l1210.length n1213 t1222 _ ⟨HS.out.begin⟩ HA1223).mono ?_
  rintro e_ w1224 ⟨rfl, hS⟩
  replace HS : Aside0 (Sep FF w [b7 g1206 g1208 a1216 a1217 a1218 a1219, b6 g1208 A1211 l1210.length n1213 a1215, r5 A1211 l1210.length n1213 l1210] w1224) := ⟨HS.out.call hS⟩
  clear hS
  go_wp2_with fail
  obtain ⟨t1225, HA1226, H⟩ := bind_some H
  refine (ground_Ground_word.calls l1210 a1215 a1216 a1217 a1218 a1219 a1220 a1221 g1206 g1208 A1211 l1210.length n1213 t1225 _ ⟨HS.out.begin⟩ HA1226).mono ?_
  rintro e_ w1227 ⟨rfl, hS⟩
  replace HS : Aside0 (Sep FF w [b7 g1206 g1208 a1216 a1217 a1218 a1219, b6 g1208 A1211 l1210.length n1213 a1215, r5 A1211 l1210.length n1213 l1210] w1227) := ⟨HS.out.call hS⟩
  clear hS
  go_wp2_with fail
  replace HS : Aside0 (Sep FF w [r5 A1211 l1210.length n1213 l1210, b7 g1206 g1208 a1216 a1217 a1218 a1219, b6 g1208 A1211 l1210.length n1213 a1215] w1227) := ⟨HS.out.front 2 (by simp)⟩
  replace HS : Aside0 (Sep FF w [b6 g1208 A1211 l1210.length n1213 a1215, r5 A1211 l1210.length n1213 l1210, b7 g1206 g1208 a1216 a1217 a1218 a1219] w1227) := ⟨HS.out.front 2 (by simp)⟩
  obtain ⟨t1248, HA1249, H⟩ := bind_some H
  refine (store_Store_Peek.calls l1210 a1215 t1225 g1208 A1211 l1210.length n1213 t1248 _ ⟨HS.out.begin⟩ HA1249).mono ?_
  rintro e_ w1250 ⟨rfl, hS⟩
  replace HS : Aside0 (Sep FF w [b6 g1208 A1211 l1210.length n1213 a1215, r5 A1211 l1210.length n1213 l1210, b7 g1206 g1208 a1216 a1217 a1218 a1219] w1250) := ⟨HS.out.call hS⟩
  clear hS
  go_wp2_with fail
  go_ret
  rw [← some_eq H]
  exact ⟨(by first | rfl | (simp [IntKind.wrap_u32]; done)), ((((HS.out).front 1 (by simp)).front 1 (by simp)).front 2 (by simp)).keep (l := [b7 g1206 g1208 a1216 a1217 a1218 a1219, b6 g1208 A1211 l1210.length n1213 a1215, r5 A1211 l1210.length n1213 l1210]) (rest := [])⟩

set_option maxHeartbeats 30000000 in
set_option maxRecDepth 100000 in
theorem quitrentlaw05_begun.calls (k : Nat)  (r : Bool) (w : World)   (HS : Aside0 (Sep (fps []) w [] w)) (H : Aside0 (quitrentlaw05_begun.f k = some r)) :
    Calls Try.prog 31 #[] w fun e w' => e = .returned (.bool r) ∧ Sep (fps []) w [] w' := by
  unfold quitrentlaw05_begun.f at H
  go_enter Try.func31, Try.ntmps31
  go_wp2_with fail
  obtain ⟨t838, HA839, H⟩ := bind_some H
  rcases t838 with t840 | (t841 | t842)
  · have H := sum_l H
    refine (ground_New.calls _ 2 16 3 1 (.inl t840) _ ⟨Sep.start _⟩ HA839).mono ?_
    rintro e_ w843 ⟨rfl, hS⟩
    replace HS : Aside0 (Sep (fps []) w [] w843) := ⟨HS.out.call hS⟩
    clear hS
    go_wp2_with fail
    go_ret
    rw [← some_eq H]
    exact ⟨(by first | rfl | (simp [IntKind.wrap_u32]; done)), HS.out⟩
  · have H := sum_r H
    have H := sum_l H
    refine (ground_New.calls _ 2 16 3 1 (.inr (.inl t841)) _ ⟨Sep.start _⟩ HA839).mono ?_
    rintro e_ w844 ⟨g848, rfl, g849, A850, m851, n852, hS⟩
    replace HS : Aside0 (Sep (fps []) w [b7 g848 g849 t841.1 t841.2.1 t841.2.2.1 t841.2.2.2.1, b6 g849 A850 m851 n852 0, r5 A850 m851 n852 t841.2.2.2.2] w844) := ⟨HS.out.call hS⟩
    clear hS
    obtain rfl := (row_len (HS.out.at2)).symm
    go_wp2_with fail
    obtain ⟨t1065, HA1066, H⟩ := bind_some H
    refine (ground_Ground_SetWord.calls t841.2.2.2.2 0 t841.1 t841.2.1 t841.2.2.1 t841.2.2.2.1 1 5 77 g848 g849 A850 ((t841.2.2.2.2).length) n852 t1065 _ ⟨HS.out.begin⟩ HA1066).mono ?_
    rintro e_ w1067 ⟨rfl, hS⟩
    replace HS : Aside0 (Sep (fps []) w [b7 g848 g849 t841.1 t841.2.1 t841.2.2.1 t841.2.2.2.1, b6 g849 A850 ((t841.2.2.2.2).length) n852 t1065.2.1, r5 A850 ((t841.2.2.2.2).length) n852 t1065.2.2] w1067) := ⟨HS.out.call hS⟩
    clear hS
    by_cases c1068 : t1065.1 = true
    · have H := if_yes c1068 H
      have c1068b0 : t1065.1 = true := c1068
      have c1068b1 : (!t1065.1) = false := by rw [c1068b0]; rfl
      try rw [c1068b1]
      clear c1068
      go_wp2_with fail
      obtain ⟨t1142, HA1143, H⟩ := bind_some H
      refine (ground_Ground_Words.calls t1065.2.2 t1065.2.1 t841.1 t841.2.1 t841.2.2.1 t841.2.2.2.1 g848 g849 A850 ((t841.2.2.2.2).length) n852 t1142 _ ⟨HS.out.begin⟩ HA1143).mono ?_
      rintro e_ w1144 ⟨A1146, m1147, n1148, rfl, hS⟩
      replace HS : Aside0 (Sep (fps []) w [b7 g848 g849 t841.1 t841.2.1 t841.2.2.1 t841.2.2.2.1, b6 g849 A850 ((t841.2.2.2.2).length) n852 t1065.2.1, r5 A850 ((t841.2.2.2.2).length) n852 t1065.2.2, r5 A1146 m1147 n1148 t1142] w1144) := ⟨HS.out.call hS⟩
      clear hS
      obtain rfl := (row_len (HS.out.at3)).symm
      by_cases c1150 : (t1142.length : Int) = 59
      · have H := if_yes c1150 H
        have c1150b0 : ((t1142.length : Int) == 59) = true := beq_iff_eq.mpr c1150
        have c1150b1 : ((t1142.length : Int) != 59) = false := bne_eq_false_iff_eq.mpr c1150
        clear c1150
        by_cases c1151 : 48 < (t1142.length : Int)
        · have H := if_yes c1151 H
          have c1151b0 : decide (48 < (t1142.length : Int)) = true := decide_eq_true c1151
          have c1151b1 : decide (48 < t1142.length) = true := decide_eq_true (by omega)
          have c1151p : (48 < (t1142.length : Int)) = True := eq_true c1151
          clear c1151
          by_cases c1155 : (rd t1142 48) = 77
          · have H := if_yes c1155 H
            have c1155b0 : ((rd t1142 48) == 77) = true := beq_iff_eq.mpr c1155
            have c1155b1 : ((rd t1142 48) != 77) = false := bne_eq_false_iff_eq.mpr c1155
            clear c1155
            obtain ⟨g1152, ea⟩ := row_at (HS.out.at3) (by have := True.intro; have := (of_decide_eq_true c1151b0); omega); cases ea
            have hx1153 := C_at_int (row_Ci (HS.out.at3)) 48 (by decide) (of_decide_eq_true c1151b0)
            have hx1154 : w1144.cell? ⟨g1152, 48, none⟩ = some (.int .u32 (rd t1142 48)) := (row_get 0 (HS.out.at3) 48 (by decide) (of_decide_eq_true c1151b0)).1
            go_wp2_with fail
            clear hx1153 hx1154
            obtain ⟨t1201, HA1202, H⟩ := bind_some H
            refine (ground_Ground_Meter.calls t1065.2.2 t1065.2.1 t841.1 t841.2.1 t841.2.2.1 t841.2.2.2.1 g848 g849 A850 ((t841.2.2.2.2).length) n852 t1201 _ ⟨HS.out.begin⟩ HA1202).mono ?_
            rintro e_ w1203 ⟨rfl, hS⟩
            replace HS : Aside0 (Sep (fps []) w [b7 g848 g849 t841.1 t841.2.1 t841.2.2.1 t841.2.2.2.1, b6 g849 A850 ((t841.2.2.2.2).length) n852 t1065.2.1, r5 A850 ((t841.2.2.2.2).length) n852 t1065.2.2, r5 (some ⟨g1152, 0, none⟩) t1142.length n1148 t1142] w1203) := ⟨HS.out.call hS⟩
            clear hS
            by_cases c1204 : t1201 = 1
            · have H := if_yes c1204 H
              have c1204b0 : (t1201 == 1) = true := beq_iff_eq.mpr c1204
              have c1204b1 : (t1201 != 1) = false := bne_eq_false_iff_eq.mpr c1204
              clear c1204
              go_wp2_with fail
              obtain ⟨t1251, HA1252, H⟩ := bind_some H
              refine (ground_Ground_SeeWord.calls t1065.2.2 t1065.2.1 t841.1 t841.2.1 t841.2.2.1 t841.2.2.2.1 1 5 g848 g849 A850 ((t841.2.2.2.2).length) n852 t1251 _ ⟨HS.out.begin⟩ HA1252).mono ?_
              rintro e_ w1253 ⟨rfl, hS⟩
              replace HS : Aside0 (Sep (fps []) w [b7 g848 g849 t841.1 t841.2.1 t841.2.2.1 t841.2.2.2.1, b6 g849 A850 ((t841.2.2.2.2).length) n852 t1065.2.1, r5 A850 ((t841.2.2.2.2).length) n852 t1065.2.2, r5 (some ⟨g1152, 0, none⟩) t1142.length n1148 t1142] w1253) := ⟨HS.out.call hS⟩
              clear hS
              replace HS : Aside0 (Sep (fps []) w [] w1253) := ⟨HS.out.sub (.cons _ (.cons _ (.cons _ (.cons _ .slnil))))⟩
              go_wp2_with fail
              go_ret
              rw [← some_eq H]
              exact ⟨(by first | rfl | (simp [IntKind.wrap_u32]; done)), HS.out⟩
            · have H := if_no c1204 H
              have c1204b0 : (t1201 == 1) = false := beq_eq_false_iff_ne.mpr c1204
              have c1204b1 : (t1201 != 1) = true := bne_iff_ne.mpr c1204
              clear c1204
              replace HS : Aside0 (Sep (fps []) w [] w1203) := ⟨HS.out.sub (.cons _ (.cons _ (.cons _ (.cons _ .slnil))))⟩
              go_wp2_with fail
              go_ret
              rw [← some_eq H]
              exact ⟨(by first | rfl | (simp [IntKind.wrap_u32]; done)), HS.out⟩
          · have H := if_no c1155 H
            have c1155b0 : ((rd t1142 48) == 77) = false := beq_eq_false_iff_ne.mpr c1155
            have c1155b1 : ((rd t1142 48) != 77) = true := bne_iff_ne.mpr c1155
            clear c1155
            obtain ⟨g1152, ea⟩ := row_at (HS.out.at3) (by have := True.intro; have := (of_decide_eq_true c1151b0); omega); cases ea
            have hx1153 := C_at_int (row_Ci (HS.out.at3)) 48 (by decide) (of_decide_eq_true c1151b0)
            have hx1154 : w1144.cell? ⟨g1152, 48, none⟩ = some (.int .u32 (rd t1142 48)) := (row_get 0 (HS.out.at3) 48 (by decide) (of_decide_eq_true c1151b0)).1
            replace HS : Aside0 (Sep (fps []) w [] w1144) := ⟨HS.out.sub (.cons _ (.cons _ (.cons _ (.cons _ .slnil))))⟩
            go_wp2_with fail
            clear hx1153 hx1154
            go_ret
            rw [← some_eq H]
            exact ⟨(by first | rfl | (simp [IntKind.wrap_u32]; done)), HS.out⟩
        · have H := if_no c1151 H
          have c1151b0 : decide (48 < (t1142.length : Int)) = false := decide_eq_false c1151
          have c1151b1 : decide (48 < t1142.length) = false := decide_eq_false (by omega)
          clear c1151
          exact (none_no H).elim
      · have H := if_no c1150 H
        have c1150b0 : ((t1142.length : Int) == 59) = false := beq_eq_false_iff_ne.mpr c1150
        have c1150b1 : ((t1142.length : Int) != 59) = true := bne_iff_ne.mpr c1150
        clear c1150
        replace HS : Aside0 (Sep (fps []) w [] w1144) := ⟨HS.out.sub (.cons _ (.cons _ (.cons _ (.cons _ .slnil))))⟩
        go_wp2_with fail
        go_ret
        rw [← some_eq H]
        exact ⟨(by first | rfl | (simp [IntKind.wrap_u32]; done)), HS.out⟩
    · have H := if_no c1068 H
      have c1068b0 : t1065.1 = false := by simpa using c1068
      have c1068b1 : (!t1065.1) = true := by rw [c1068b0]; rfl
      try rw [c1068b1]
      clear c1068
      replace HS : Aside0 (Sep (fps []) w [] w1067) := ⟨HS.out.sub (.cons _ (.cons _ (.cons _ .slnil)))⟩
      go_wp2_with fail
      go_ret
      rw [← some_eq H]
      exact ⟨(by first | rfl | (simp [IntKind.wrap_u32]; done)), HS.out⟩
  · have H := sum_r H
    have H := sum_r H
    refine (ground_New.calls _ 2 16 3 1 (.inr (.inr t842)) _ ⟨Sep.start _⟩ HA839).mono ?_
    rintro e_ w1254 ⟨rfl, hS⟩
    replace HS : Aside0 (Sep (fps []) w [] w1254) := ⟨HS.out.call hS⟩
    clear hS
    by_cases c1255 : t842 = 0
    · have H := if_yes c1255 H
      have c1255b0 : (t842 == 0) = true := beq_iff_eq.mpr c1255
      have c1255b1 : (t842 != 0) = false := bne_eq_false_iff_eq.mpr c1255
      clear c1255
      go_wp2_with fail
      go_ret
      rw [← some_eq H]
      exact ⟨(by first | rfl | (simp [IntKind.wrap_u32]; done)), HS.out⟩
    · have H := if_no c1255 H
      have c1255b0 : (t842 == 0) = false := beq_eq_false_iff_ne.mpr c1255
      have c1255b1 : (t842 != 0) = true := bne_iff_ne.mpr c1255
      clear c1255
      go_wp2_with fail
      go_ret
      rw [← some_eq H]
      exact ⟨(by first | rfl | (simp [IntKind.wrap_u32]; done)), HS.out⟩

set_option maxHeartbeats 30000000 in
set_option maxRecDepth 100000 in
theorem quitrentref05_Little.calls (a1263 : Int) (a1264 : Int) (a1265 : Int) (a1266 : Int) (r : Bool) (w : World)   (HS : Aside0 (Sep (fps []) w [] w)) (H : Aside0 (quitrentref05_Little.f a1263 a1264 a1265 a1266 = some r)) :
    Calls Try.prog 32 #[.agg #[.int .i64 a1263, .int .i64 a1264, .int .i64 a1265, .int .i64 a1266]] w fun e w' => e = .returned (.bool r) ∧ Sep (fps []) w [] w' := by
  unfold quitrentref05_Little.f at H
  go_enter Try.func32, Try.ntmps32
  by_cases c1271 : a1263 ≤ 300
  · have H := if_yes c1271 H
    have c1271b0 : decide (a1263 ≤ 300) = true := decide_eq_true c1271
    clear c1271
    by_cases c1273 : a1264 ≤ 64
    · have H := if_yes c1273 H
      have c1273b0 : decide (a1264 ≤ 64) = true := decide_eq_true c1273
      clear c1273
      go_wp2_with (first | ((with_reducible refine gate_dst (N := 1) rfl ?_); refine box_on ?hg (N := 1) ?hd (cs := #[.int .i64 a1263, .int .i64 a1264, .int .i64 a1265, .int .i64 a1266]) (t := 49) ?hr ?_; (case hd => rfl); (case hg => rfl); (case hr => first | (go_simp; done) | (go_simp; rfl)); intro g1267 hg w1268 hbox hb; replace HS : Aside0 (Sep (fps []) w [b1 g1267 a1263 a1264 a1265 a1266] w1268) := ⟨HS.out.box hg hbox hb⟩; clear hg hbox hb; have hc1270 : w1268.cell? ⟨g1267, 0, none⟩ = some (.int .i64 a1263) := blk_cellv (HS.out.at0) 0 rfl; have hc1272 : w1268.cell? ⟨g1267, 1, none⟩ = some (.int .i64 a1264) := blk_cellv (HS.out.at0) 1 rfl; have hc1274 : w1268.cell? ⟨g1267, 2, none⟩ = some (.int .i64 a1265) := blk_cellv (HS.out.at0) 2 rfl; replace HS : Aside0 (Sep (fps []) w [] w1268) := ⟨HS.out.sub (.cons _ .slnil)⟩))
      clear hc1270 hc1272 hc1274
      go_ret
      rw [← some_eq H]
      exact ⟨(by first | rfl | (simp [IntKind.wrap_u32]; done)), HS.out⟩
    · have H := if_no c1273 H
      have c1273b0 : decide (a1264 ≤ 64) = false := decide_eq_false c1273
      clear c1273
      go_wp2_with (first | ((with_reducible refine gate_dst (N := 1) rfl ?_); refine box_on ?hg (N := 1) ?hd (cs := #[.int .i64 a1263, .int .i64 a1264, .int .i64 a1265, .int .i64 a1266]) (t := 49) ?hr ?_; (case hd => rfl); (case hg => rfl); (case hr => first | (go_simp; done) | (go_simp; rfl)); intro g1267 hg w1268 hbox hb; replace HS : Aside0 (Sep (fps []) w [b1 g1267 a1263 a1264 a1265 a1266] w1268) := ⟨HS.out.box hg hbox hb⟩; clear hg hbox hb; have hc1270 : w1268.cell? ⟨g1267, 0, none⟩ = some (.int .i64 a1263) := blk_cellv (HS.out.at0) 0 rfl; have hc1272 : w1268.cell? ⟨g1267, 1, none⟩ = some (.int .i64 a1264) := blk_cellv (HS.out.at0) 1 rfl; replace HS : Aside0 (Sep (fps []) w [] w1268) := ⟨HS.out.sub (.cons _ .slnil)⟩))
      clear hc1270 hc1272
      go_ret
      rw [← some_eq H]
      exact ⟨(by first | rfl | (simp [IntKind.wrap_u32]; done)), HS.out⟩
  · have H := if_no c1271 H
    have c1271b0 : decide (a1263 ≤ 300) = false := decide_eq_false c1271
    clear c1271
    go_wp2_with (first | ((with_reducible refine gate_dst (N := 1) rfl ?_); refine box_on ?hg (N := 1) ?hd (cs := #[.int .i64 a1263, .int .i64 a1264, .int .i64 a1265, .int .i64 a1266]) (t := 49) ?hr ?_; (case hd => rfl); (case hg => rfl); (case hr => first | (go_simp; done) | (go_simp; rfl)); intro g1267 hg w1268 hbox hb; replace HS : Aside0 (Sep (fps []) w [b1 g1267 a1263 a1264 a1265 a1266] w1268) := ⟨HS.out.box hg hbox hb⟩; clear hg hbox hb; have hc1270 : w1268.cell? ⟨g1267, 0, none⟩ = some (.int .i64 a1263) := blk_cellv (HS.out.at0) 0 rfl; replace HS : Aside0 (Sep (fps []) w [] w1268) := ⟨HS.out.sub (.cons _ .slnil)⟩))
    clear hc1270
    go_ret
    rw [← some_eq H]
    exact ⟨(by first | rfl | (simp [IntKind.wrap_u32]; done)), HS.out⟩

set_option maxHeartbeats 30000000 in
set_option maxRecDepth 100000 in
theorem quitrentref04_New.calls (a1332 : Int) (r : List Int) (w : World)   (HS : Aside0 (Sep (fps []) w [] w)) (H : Aside0 (quitrentref04_New.f a1332 = some r)) :
    Calls Try.prog 26 #[.int .i64 a1332] w fun e w' => ∃ (g1353 : Nat), e = .returned (.pointer (some ⟨g1353, 0, none⟩)) ∧ ∃ (A1354 : Option Addr) (m1355 : Nat) (n1356 : Nat), Sep (fps []) w [b8 g1353 A1354 m1355 n1356 0, r5 A1354 m1355 n1356 r] w' := by
  unfold quitrentref04_New.f at H
  go_enter Try.func26, Try.ntmps26
  obtain ⟨m1333, HA1334, H⟩ := bind_some H
  obtain ⟨hm1335, hn1336⟩ := mkLen_eq HA1334
  have hm1335H := Aside0.mk hm1335
  clear hm1335
  go_wp2_with (first | ((with_reducible refine gate_dst (N := 4) rfl ?_); refine make_event rfl (N := 4) rfl 22 23 (.tmp 3) (.tmp 3) rfl .i64 (.int .u32 0) 4 Try.underlying22 (by kernel_rfl) rfl (by decide) (Value.int .u32) 0 rfl m1333 (by show Value.int _ _ = _; rw [hm1335H.out]) (by show Value.int _ _ = _; rw [hm1335H.out]) (by omega) HS.out ?_; intro g1337 w1338 HS1; replace HS : Aside0 (Sep (fps []) w [r5 (some ⟨g1337, 0, none⟩) m1333 m1333 (List.replicate m1333 (0 : Int))] w1338) := ⟨HS1⟩; clear HS1) | ((with_reducible refine gate_dst (N := 6) rfl ?_); refine box_on ?hg (N := 6) ?hd (cs := #[.slice (some ⟨g1337, 0, none⟩) m1333 m1333, .int .u64 0]) (t := 44) ?hr ?_; (case hd => rfl); (case hg => rfl); (case hr => first | (go_simp; done) | (go_simp; rfl)); intro g1341 hg w1342 hbox hb; replace HS : Aside0 (Sep (fps []) w [r5 (some ⟨g1337, 0, none⟩) m1333 m1333 (List.replicate m1333 (0 : Int)), b8 g1341 (some ⟨g1337, 0, none⟩) m1333 m1333 0] w1342) := ⟨HS.out.box hg hbox hb⟩; clear hg hbox hb))
  go_ret
  rw [← some_eq H]
  exact ⟨g1341, (by first | rfl | (simp [IntKind.wrap_u32]; done)), (some ⟨g1337, 0, none⟩), m1333, m1333, ((HS.out).front 1 (by simp)).keep (l := [b8 g1341 (some ⟨g1337, 0, none⟩) m1333 m1333 0, r5 (some ⟨g1337, 0, none⟩) m1333 m1333 (List.replicate m1333 (0 : Int))]) (rest := [])⟩

set_option maxHeartbeats 30000000 in
set_option maxRecDepth 100000 in
theorem quitrentref05_New.calls (a1323 : Int) (a1324 : Int) (a1325 : Int) (a1326 : Int) (r : Int × Int × Int × Int × List Int) (w : World)   (HS : Aside0 (Sep (fps []) w [] w)) (H : Aside0 (quitrentref05_New.f a1323 a1324 a1325 a1326 = some r)) :
    Calls Try.prog 40 #[.agg #[.int .i64 a1323, .int .i64 a1324, .int .i64 a1325, .int .i64 a1326]] w fun e w' => ∃ (g1383 : Nat), e = .returned (.pointer (some ⟨g1383, 0, none⟩)) ∧ ∃ (g1384 : Nat) (A1385 : Option Addr) (m1386 : Nat) (n1387 : Nat), Sep (fps []) w [b9 g1383 r.1 r.2.1 r.2.2.1 r.2.2.2.1 g1384, b8 g1384 A1385 m1386 n1387 0, r5 A1385 m1386 n1387 r.2.2.2.2] w' := by
  unfold quitrentref05_New.f at H
  go_enter Try.func40, Try.ntmps40
  go_wp2_with (first | ((with_reducible refine gate_dst (N := 1) rfl ?_); refine box_on ?hg (N := 1) ?hd (cs := #[.int .i64 a1323, .int .i64 a1324, .int .i64 a1325, .int .i64 a1326]) (t := 49) ?hr ?_; (case hd => rfl); (case hg => rfl); (case hr => first | (go_simp; done) | (go_simp; rfl)); intro g1327 hg w1328 hbox hb; replace HS : Aside0 (Sep (fps []) w [b1 g1327 a1323 a1324 a1325 a1326] w1328) := ⟨HS.out.box hg hbox hb⟩; clear hg hbox hb))
  refine start_ (n := 14) (S := (fun w' => w'.cell? ⟨g1327, 0, none⟩ = some (.int .i64 a1323) ∧ w'.cell? ⟨g1327, 1, none⟩ = some (.int .i64 a1324) ∧ w'.cell? ⟨g1327, 2, none⟩ = some (.int .i64 a1325) ∧ w'.cell? ⟨g1327, 3, none⟩ = some (.int .i64 a1326))) (ds := []) #[false, false, false, false, false, false, false, false, false, false, false, false, false, false] (by kernel_rfl) rfl rfl (⟨blk_cellv ((HS.out.drew).at0) 0 rfl, blk_cellv ((HS.out.drew).at0) 1 rfl, blk_cellv ((HS.out.drew).at0) 2 rfl, blk_cellv ((HS.out.drew).at0) 3 rfl⟩) (fun hHeld => ?_)
  have HS_ := Aside0.mk HS.out.drew
  clear HS
  generalize World.drew _ = w1331 at HS_ hHeld ⊢
  have HS := HS_
  clear HS_
  refine pure_ (i := 1) (N := some 4) (v := ?_) (a' := ?_) #[false, true, false, false, false, false, false, false, false, false, false, false, false, false] rfl rfl (by kernel_rfl) (fun _ _ _ h => h) (Or.inl ⟨by rfl, ?_⟩) ?_ ?_
  rotate_left
  · intro w'
    go_simp
    with_reducible rfl
  rotate_left
  · simp only [Act.put, List.setIfInBounds_toArray, List.set_cons_zero, List.set_cons_succ, i64_w, i32_w]
    rfl
  refine pure_ (i := 4) (N := some 7) (v := ?_) (a' := ?_) #[false, true, false, false, true, false, false, false, false, false, false, false, false, false] rfl rfl (by kernel_rfl) (fun _ _ _ h => h) (Or.inl ⟨by rfl, ?_⟩) ?_ ?_
  rotate_left
  · intro w'
    go_simp
    with_reducible rfl
  rotate_left
  · simp only [Act.put, List.setIfInBounds_toArray, List.set_cons_zero, List.set_cons_succ, i64_w, i32_w]
    rfl
  refine pure_ (i := 6) (N := some 9) (v := ?_) (a' := ?_) #[false, true, false, false, true, false, true, false, false, false, false, false, false, false] rfl rfl (by kernel_rfl) (fun _ _ _ h => h) (Or.inl ⟨by rfl, ?_⟩) ?_ ?_
  rotate_left
  · intro w'
    go_simp
    with_reducible rfl
  rotate_left
  · simp only [Act.put, List.setIfInBounds_toArray, List.set_cons_zero, List.set_cons_succ, i64_w, i32_w]
    rfl
  refine take_ (i := 0) (N := some 3) (v := ?_) (a' := ?_) #[true, true, false, false, true, false, true, false, false, false, false, false, false, false] rfl rfl (by kernel_rfl) (fun _ _ _ h => h) (Or.inl ⟨by rfl, ?_⟩) hHeld ?_ ?_
  rotate_left
  · rintro w' hS'
    obtain ⟨s0, s1, s2, s3⟩ := hS'
    go_simp
    with_reducible rfl
  rotate_left
  · simp only [Act.put, List.setIfInBounds_toArray, List.set_cons_zero, List.set_cons_succ, i64_w, i32_w]
    rfl
  refine take_ (i := 2) (N := some 5) (v := ?_) (a' := ?_) #[true, true, true, false, true, false, true, false, false, false, false, false, false, false] rfl rfl (by kernel_rfl) (fun _ _ _ h => h) (Or.inl ⟨by rfl, ?_⟩) hHeld ?_ ?_
  rotate_left
  · rintro w' hS'
    obtain ⟨s0, s1, s2, s3⟩ := hS'
    go_simp
    with_reducible rfl
  rotate_left
  · simp only [Act.put, List.setIfInBounds_toArray, List.set_cons_zero, List.set_cons_succ, i64_w, i32_w]
    rfl
  refine pure_ (i := 3) (N := some 6) (v := ?_) (a' := ?_) #[true, true, true, true, true, false, true, false, false, false, false, false, false, false] rfl rfl (by kernel_rfl) (fun _ _ _ h => h) (Or.inl ⟨by rfl, ?_⟩) ?_ ?_
  rotate_left
  · intro w'
    go_simp
    with_reducible rfl
  rotate_left
  · simp only [Act.put, List.setIfInBounds_toArray, List.set_cons_zero, List.set_cons_succ, i64_w, i32_w]
    rfl
  refine take_ (i := 5) (N := some 8) (v := ?_) (a' := ?_) #[true, true, true, true, true, true, true, false, false, false, false, false, false, false] rfl rfl (by kernel_rfl) (fun _ _ _ h => h) (Or.inl ⟨by rfl, ?_⟩) hHeld ?_ ?_
  rotate_left
  · rintro w' hS'
    obtain ⟨s0, s1, s2, s3⟩ := hS'
    go_simp
    with_reducible rfl
  rotate_left
  · simp only [Act.put, List.setIfInBounds_toArray, List.set_cons_zero, List.set_cons_succ, i64_w, i32_w]
    rfl
  refine take_ (i := 7) (N := some 10) (v := ?_) (a' := ?_) #[true, true, true, true, true, true, true, true, false, false, false, false, false, false] rfl rfl (by kernel_rfl) (fun _ _ _ h => h) (Or.inl ⟨by rfl, ?_⟩) hHeld ?_ ?_
  rotate_left
  · rintro w' hS'
    obtain ⟨s0, s1, s2, s3⟩ := hS'
    go_simp
    with_reducible rfl
  rotate_left
  · simp only [Act.put, List.setIfInBounds_toArray, List.set_cons_zero, List.set_cons_succ, i64_w, i32_w]
    rfl
  refine pure_ (i := 8) (N := some 11) (v := ?_) (a' := ?_) #[true, true, true, true, true, true, true, true, true, false, false, false, false, false] rfl rfl (by kernel_rfl) (fun _ _ _ h => h) (Or.inl ⟨by rfl, ?_⟩) ?_ ?_
  rotate_left
  · intro w'
    go_simp
    with_reducible rfl
  rotate_left
  · simp only [Act.put, List.setIfInBounds_toArray, List.set_cons_zero, List.set_cons_succ, i64_w, i32_w]
    rfl
  refine pure_ (i := 9) (N := some 12) (v := ?_) (a' := ?_) #[true, true, true, true, true, true, true, true, true, true, false, false, false, false] rfl rfl (by kernel_rfl) (fun _ _ _ h => h) (Or.inl ⟨by rfl, ?_⟩) ?_ ?_
  rotate_left
  · intro w'
    go_simp
    with_reducible rfl
  rotate_left
  · simp only [Act.put, List.setIfInBounds_toArray, List.set_cons_zero, List.set_cons_succ, i64_w, i32_w]
    rfl
  refine one_ (i := 10) (N := some 13) #[true, true, true, true, true, true, true, true, true, true, true, false, false, false] rfl rfl (by kernel_rfl) (by decide) (fun K hK => ?_)
  obtain ⟨t1358, HA1359, H⟩ := bind_some H
  refine goes_ Try.func26 (by kernel_rfl) rfl #[.int .i64 (wrap64 ((wrap64 (24 + a1325)) + (wrap64 (a1323 * a1324))))] (by rfl) rfl rfl (by (try simp only [List.map_toArray, List.map_cons, List.map_nil]); first | done | rfl) ?_
  refine (quitrentref04_New.calls (wrap64 ((wrap64 (24 + a1325)) + (wrap64 (a1323 * a1324)))) t1358 _ ⟨Sep.start _⟩ HA1359).mono ?_
  rintro e_ w1360 ⟨g1363, rfl, A1364, m1365, n1366, hS⟩
  replace HS : Aside0 (Sep (fps []) w [b8 g1363 A1364 m1365 n1366 0, r5 A1364 m1365 n1366 t1358, b1 g1327 a1323 a1324 a1325 a1326] w1360) := ⟨HS.out.call hS⟩
  clear hS
  obtain rfl := (row_len (HS.out.at1)).symm
  refine ⟨_, rfl, ?_⟩
  refine hK.out _ _ (⟨blk_cellv (HS.out.at2) 0 rfl, blk_cellv (HS.out.at2) 1 rfl, blk_cellv (HS.out.at2) 2 rfl, blk_cellv (HS.out.at2) 3 rfl⟩) (fun hHeld => ?_)
  clear hK K
  refine norm_ (a' := ?_) ?_ ?_
  rotate_left
  · show Act.put _ (some 13) _ = _
    simp only [Act.put, List.setIfInBounds_toArray, List.set_cons_zero, List.set_cons_succ, i64_w, i32_w]
    rfl
  refine pure_ (i := 11) (N := some 14) (v := ?_) (a' := ?_) #[true, true, true, true, true, true, true, true, true, true, true, true, false, false] rfl rfl (by kernel_rfl) (fun _ _ _ h => h) (Or.inl ⟨by rfl, ?_⟩) ?_ ?_
  rotate_left
  · intro w'
    go_simp
    with_reducible rfl
  rotate_left
  · simp only [Act.put, List.setIfInBounds_toArray, List.set_cons_zero, List.set_cons_succ, i64_w, i32_w]
    rfl
  refine one_ (i := 12) (N := some 15) #[true, true, true, true, true, true, true, true, true, true, true, true, true, false] rfl rfl (by kernel_rfl) (by decide) (fun K hK => ?_)
  refine box_step (by rfl) (N := 15) rfl (cs := #[.int .i64 a1323, .int .i64 a1324, .int .i64 a1325, .int .i64 a1326, .pointer (some ⟨g1363, 0, none⟩)]) (t := 69) ?hr ?_
  case hr => first | (go_simp; done) | (go_simp; rfl)
  intro g1368 hg w1369 hbox hb
  replace HS : Aside0 (Sep (fps []) w [b8 g1363 A1364 t1358.length n1366 0, r5 A1364 t1358.length n1366 t1358, b1 g1327 a1323 a1324 a1325 a1326, b9 g1368 a1323 a1324 a1325 a1326 g1363] w1369) := ⟨HS.out.box hg hbox hb⟩
  clear hg hbox hb
  refine hK.out _ _ (⟨blk_cellv (HS.out.at2) 0 rfl, blk_cellv (HS.out.at2) 1 rfl, blk_cellv (HS.out.at2) 2 rfl, blk_cellv (HS.out.at2) 3 rfl⟩) (fun hHeld => ?_)
  clear hK K
  refine norm_ (a' := ?_) ?_ ?_
  rotate_left
  · show Act.put _ (some 15) _ = _
    simp only [Act.put, List.setIfInBounds_toArray, List.set_cons_zero, List.set_cons_succ, i64_w, i32_w]
    rfl
  refine pure_ (i := 13) (N := some 2) (v := ?_) (a' := ?_) #[true, true, true, true, true, true, true, true, true, true, true, true, true, true] rfl rfl (by kernel_rfl) (fun _ _ _ h => h) (Or.inl ⟨by rfl, ?_⟩) ?_ ?_
  rotate_left
  · intro w'
    go_simp
    with_reducible rfl
  rotate_left
  · simp only [Act.put, List.setIfInBounds_toArray, List.set_cons_zero, List.set_cons_succ, i64_w, i32_w]
    rfl
  refine done_ (by kernel_rfl) ?_
  replace HS : Aside0 (Sep (fps []) w [b8 g1363 A1364 t1358.length n1366 0, r5 A1364 t1358.length n1366 t1358, b9 g1368 a1323 a1324 a1325 a1326 g1363] w1369) := ⟨HS.out.sub (.cons_cons _ (.cons_cons _ (.cons _ (.cons_cons _ .slnil))))⟩
  go_wp2_with fail
  go_ret
  rw [← some_eq H]
  exact ⟨g1368, (by first | rfl | (simp [IntKind.wrap_u32]; done)), g1363, A1364, t1358.length, n1366, ((((HS.out).front 1 (by simp)).front 1 (by simp)).front 2 (by simp)).keep (l := [b9 g1368 a1323 a1324 a1325 a1326 g1363, b8 g1363 A1364 t1358.length n1366 0, r5 A1364 t1358.length n1366 t1358]) (rest := [])⟩

set_option maxHeartbeats 30000000 in
set_option maxRecDepth 100000 in
theorem quitrentref05_RegAt.calls (a1468 : Int) (r : Int) (w : World)   (HS : Aside0 (Sep (fps []) w [] w)) (H : Aside0 (quitrentref05_RegAt.f a1468 = some r)) :
    Calls Try.prog 79 #[.int .i64 a1468] w fun e w' => e = .returned (.int .i64 r) ∧ Sep (fps []) w [] w' := by
  unfold quitrentref05_RegAt.f at H
  go_enter Try.func79, Try.ntmps79
  by_cases c1469 : a1468 < 0
  · have H := if_yes c1469 H
    have c1469b0 : decide (a1468 < 0) = true := decide_eq_true c1469
    clear c1469
    go_wp2_with fail
    go_ret
    rw [← some_eq H]
    exact ⟨(by first | rfl | (simp [IntKind.wrap_u32]; done)), HS.out⟩
  · have H := if_no c1469 H
    have c1469b0 : decide (a1468 < 0) = false := decide_eq_false c1469
    clear c1469
    by_cases c1470 : a1468 ≥ 24
    · have H := if_yes c1470 H
      have c1470b0 : decide (24 ≤ a1468) = true := decide_eq_true c1470
      clear c1470
      go_wp2_with fail
      go_ret
      rw [← some_eq H]
      exact ⟨(by first | rfl | (simp [IntKind.wrap_u32]; done)), HS.out⟩
    · have H := if_no c1470 H
      have c1470b0 : decide (24 ≤ a1468) = false := decide_eq_false c1470
      clear c1470
      go_wp2_with fail
      go_ret
      rw [← some_eq H]
      exact ⟨(by first | rfl | (simp [IntKind.wrap_u32]; done)), HS.out⟩

set_option maxHeartbeats 30000000 in
set_option maxRecDepth 100000 in
theorem quitrentref05_RootAt.calls (a1474 : Int) (a1475 : Int) (a1476 : Int) (a1477 : Int) (a1478 : Int) (r : Int) (w : World)   (HS : Aside0 (Sep (fps []) w [] w)) (H : Aside0 (quitrentref05_RootAt.f a1474 a1475 a1476 a1477 a1478 = some r)) :
    Calls Try.prog 80 #[.agg #[.int .i64 a1474, .int .i64 a1475, .int .i64 a1476, .int .i64 a1477], .int .i64 a1478] w fun e w' => e = .returned (.int .i64 r) ∧ Sep (fps []) w [] w' := by
  unfold quitrentref05_RootAt.f at H
  go_enter Try.func80, Try.ntmps80
  by_cases c1482 : a1478 < 0
  · have H := if_yes c1482 H
    have c1482b0 : decide (a1478 < 0) = true := decide_eq_true c1482
    clear c1482
    go_wp2_with (first | ((with_reducible refine gate_dst (N := 2) rfl ?_); refine box_on ?hg (N := 2) ?hd (cs := #[.int .i64 a1474, .int .i64 a1475, .int .i64 a1476, .int .i64 a1477]) (t := 49) ?hr ?_; (case hd => rfl); (case hg => rfl); (case hr => first | (go_simp; done) | (go_simp; rfl)); intro g1479 hg w1480 hbox hb; replace HS : Aside0 (Sep (fps []) w [b1 g1479 a1474 a1475 a1476 a1477] w1480) := ⟨HS.out.box hg hbox hb⟩; clear hg hbox hb; replace HS : Aside0 (Sep (fps []) w [] w1480) := ⟨HS.out.sub (.cons _ .slnil)⟩))
    go_ret
    rw [← some_eq H]
    exact ⟨(by first | rfl | (simp [IntKind.wrap_u32]; done)), HS.out⟩
  · have H := if_no c1482 H
    have c1482b0 : decide (a1478 < 0) = false := decide_eq_false c1482
    clear c1482
    by_cases c1484 : a1478 ≥ a1476
    · have H := if_yes c1484 H
      have c1484b0 : decide (a1476 ≤ a1478) = true := decide_eq_true c1484
      clear c1484
      go_wp2_with (first | ((with_reducible refine gate_dst (N := 2) rfl ?_); refine box_on ?hg (N := 2) ?hd (cs := #[.int .i64 a1474, .int .i64 a1475, .int .i64 a1476, .int .i64 a1477]) (t := 49) ?hr ?_; (case hd => rfl); (case hg => rfl); (case hr => first | (go_simp; done) | (go_simp; rfl)); intro g1479 hg w1480 hbox hb; replace HS : Aside0 (Sep (fps []) w [b1 g1479 a1474 a1475 a1476 a1477] w1480) := ⟨HS.out.box hg hbox hb⟩; clear hg hbox hb; have hc1483 : w1480.cell? ⟨g1479, 2, none⟩ = some (.int .i64 a1476) := blk_cellv (HS.out.at0) 2 rfl; replace HS : Aside0 (Sep (fps []) w [] w1480) := ⟨HS.out.sub (.cons _ .slnil)⟩))
      clear hc1483
      go_ret
      rw [← some_eq H]
      exact ⟨(by first | rfl | (simp [IntKind.wrap_u32]; done)), HS.out⟩
    · have H := if_no c1484 H
      have c1484b0 : decide (a1476 ≤ a1478) = false := decide_eq_false c1484
      clear c1484
      go_wp2_with (first | ((with_reducible refine gate_dst (N := 2) rfl ?_); refine box_on ?hg (N := 2) ?hd (cs := #[.int .i64 a1474, .int .i64 a1475, .int .i64 a1476, .int .i64 a1477]) (t := 49) ?hr ?_; (case hd => rfl); (case hg => rfl); (case hr => first | (go_simp; done) | (go_simp; rfl)); intro g1479 hg w1480 hbox hb; replace HS : Aside0 (Sep (fps []) w [b1 g1479 a1474 a1475 a1476 a1477] w1480) := ⟨HS.out.box hg hbox hb⟩; clear hg hbox hb; have hc1483 : w1480.cell? ⟨g1479, 2, none⟩ = some (.int .i64 a1476) := blk_cellv (HS.out.at0) 2 rfl; replace HS : Aside0 (Sep (fps []) w [] w1480) := ⟨HS.out.sub (.cons _ .slnil)⟩))
      clear hc1483
      go_ret
      rw [← some_eq H]
      exact ⟨(by first | rfl | (simp [IntKind.wrap_u32]; done)), HS.out⟩
end Go.Proofs.Ytobeonkddamnoaa.C

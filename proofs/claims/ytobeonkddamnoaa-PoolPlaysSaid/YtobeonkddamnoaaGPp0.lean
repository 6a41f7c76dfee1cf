/- Each function of the group Pp does what its plain function says, and changes nothing that was there; proved by walking its code. No condition. -/
import Derived.Test.YtobeonkddamnoaaQw
import Derived.Test.YtobeonkddamnoaaMPp
namespace Go.Proofs.Ytobeonkddamnoaa.C
open Go.RowKit Go.Proofs.YtobeonkddamnoaaW.PrintWords Go.Proofs.YtobeonkddamnoaaW.PrintLast Go.Proofs.Ytobeonkddamnoaa.Q Go.Proofs.Ytobeonkddamnoaa.M
set_option linter.unusedVariables false
set_option linter.unusedSimpArgs false
def b1 (g : Nat) (x0 : Int) (x1 : Int) (x2 : Int) (x3 : Int) : Ob := blk g #[.int .i64 x0, .int .i64 x1, .int .i64 x2, .int .i64 x3] 49
def b2 (g : Nat) (x0 : Int) (x1 : Int) (x2 : Int) (x3 : Int) (x4 : Int) (x5 : Int) (x6 : Int) (x7 : Int) : Ob := blk g #[.int .i64 x0, .int .i64 x1, .int .i64 x2, .int .i64 x3, .int .i64 x4, .int .i64 x5, .int .i64 x6, .int .i64 x7] 120
def b3 (g : Nat) (x0 : Int) (x1 : Int) : Ob := blk g #[.int .i64 x0, .int .i64 x1] 3
def b4 (g : Nat) (x0 : Int) (x1 : Int) (x2 : Int) : Ob := blk g #[.int .i64 x0, .int .i64 x1, .int .i64 x2] 3
def r5 (A : Option Addr) (n c : Nat) (l : List Int) : Ob := row 23 (Value.int .u32) (.slice A n c) l
def b6 (g : Nat) (x0 : Option Addr) (x1 : Nat) (x2 : Nat) (x3 : Int) : Ob := blk g #[.slice x0 x1 x2, .int .u64 x3] 115
def b7 (g : Nat) (x0 : Nat) (x1 : Int) (x2 : Int) (x3 : Int) (x4 : Int) : Ob := blk g #[.pointer (some ⟨x0, 0, none⟩), .int .i64 x1, .int .i64 x2, .int .i64 x3, .int .i64 x4] 126
def b8 (g : Nat) (x0 : Int) (x1 : Int) (x2 : Int) : Ob := blk g #[.int .i64 x0, .int .i64 x1, .int .i64 x2] 134
def b9 (g : Nat) (x0 : Nat) : Ob := blk g #[.pointer (some ⟨x0, 0, none⟩)] 50
def b10 (g : Nat) (x0 : Int) : Ob := blk g #[.int .i64 x0] 3
def b11 (g : Nat) (x0 : Int) : Ob := blk g #[.int .u32 x0] 23
def b12 (g : Nat) (x0 : Int) (x1 : Int) (x2 : Int) (x3 : Int) (x4 : Int) (x5 : Int) (x6 : Int) : Ob := blk g #[.int .i64 x0, .int .i64 x1, .int .i64 x2, .int .i64 x3, .int .i64 x4, .int .i64 x5, .int .i64 x6] 102
def r13 (A : Option Addr) (n c : Nat) (l : List Int) : Ob := row 3 (Value.int .i64) (.slice A n c) l
abbrev s14 : Kd (Int × Int × Int × Int × Int × Int × Int × Int × Int × Int) := (Kd.pair (Kd.int .u8) (Kd.pair (Kd.int .i64) (Kd.pair (Kd.int .i64) (Kd.pair (Kd.int .i64) (Kd.pair (Kd.int .i64) (Kd.pair (Kd.int .i64) (Kd.pair (Kd.int .i64) (Kd.pair (Kd.int .i64) (Kd.pair (Kd.int .i64) (Kd.int .u32))))))))))
theorem s14_at {F : Nat → Prop} {w W : World} {A : Option Addr} {n : Nat} {xs : List (Int × Int × Int × Int × Int × Int × Int × Int × Int × Int)} (h : Rd s14 F w A n xs) (hf : Fr F w W) (i : Int) (h0 : 0 ≤ i) (h1 : i < n) : ∃ ad, A = some ad ∧ W.cell? (ad.add (i.toNat * 10)) = some (.int .u8 ((rdOf (0, 0, 0, 0, 0, 0, 0, 0, 0, 0) xs i).1)) ∧ W.cell? ⟨(ad.add (i.toNat * 10)).block, (ad.add (i.toNat * 10)).off + 1, none⟩ = some (.int .i64 ((rdOf (0, 0, 0, 0, 0, 0, 0, 0, 0, 0) xs i).2.1)) ∧ W.cell? ⟨(ad.add (i.toNat * 10)).block, (ad.add (i.toNat * 10)).off + 2, none⟩ = some (.int .i64 ((rdOf (0, 0, 0, 0, 0, 0, 0, 0, 0, 0) xs i).2.2.1)) ∧ W.cell? ⟨(ad.add (i.toNat * 10)).block, (ad.add (i.toNat * 10)).off + 3, none⟩ = some (.int .i64 ((rdOf (0, 0, 0, 0, 0, 0, 0, 0, 0, 0) xs i).2.2.2.1)) ∧ W.cell? ⟨(ad.add (i.toNat * 10)).block, (ad.add (i.toNat * 10)).off + 4, none⟩ = some (.int .i64 ((rdOf (0, 0, 0, 0, 0, 0, 0, 0, 0, 0) xs i).2.2.2.2.1)) ∧ W.cell? ⟨(ad.add (i.toNat * 10)).block, (ad.add (i.toNat * 10)).off + 5, none⟩ = some (.int .i64 ((rdOf (0, 0, 0, 0, 0, 0, 0, 0, 0, 0) xs i).2.2.2.2.2.1)) ∧ W.cell? ⟨(ad.add (i.toNat * 10)).block, (ad.add (i.toNat * 10)).off + 6, none⟩ = some (.int .i64 ((rdOf (0, 0, 0, 0, 0, 0, 0, 0, 0, 0) xs i).2.2.2.2.2.2.1)) ∧ W.cell? ⟨(ad.add (i.toNat * 10)).block, (ad.add (i.toNat * 10)).off + 7, none⟩ = some (.int .i64 ((rdOf (0, 0, 0, 0, 0, 0, 0, 0, 0, 0) xs i).2.2.2.2.2.2.2.1)) ∧ W.cell? ⟨(ad.add (i.toNat * 10)).block, (ad.add (i.toNat * 10)).off + 8, none⟩ = some (.int .i64 ((rdOf (0, 0, 0, 0, 0, 0, 0, 0, 0, 0) xs i).2.2.2.2.2.2.2.2.1)) ∧ W.cell? ⟨(ad.add (i.toNat * 10)).block, (ad.add (i.toNat * 10)).off + 9, none⟩ = some (.int .u32 ((rdOf (0, 0, 0, 0, 0, 0, 0, 0, 0, 0) xs i).2.2.2.2.2.2.2.2.2)) := by
  obtain ⟨ad, c, e, hl, hk, hc⟩ := Rd.el h hf (0, 0, 0, 0, 0, 0, 0, 0, 0, 0) i h0 h1
  obtain ⟨_, _, rfl, rfl, ⟨_, _, rfl, rfl, ⟨_, _, rfl, rfl, ⟨_, _, rfl, rfl, ⟨_, _, rfl, rfl, ⟨_, _, rfl, rfl, ⟨_, _, rfl, rfl, ⟨_, _, rfl, rfl, ⟨_, _, rfl, rfl, rfl⟩⟩⟩⟩⟩⟩⟩⟩⟩ := hk
  exact ⟨ad, e, hc 0 _ rfl, hc 1 _ rfl, hc 2 _ rfl, hc 3 _ rfl, hc 4 _ rfl, hc 5 _ rfl, hc 6 _ rfl, hc 7 _ rfl, hc 8 _ rfl, hc 9 _ rfl⟩
def b15 (g : Nat) (x0 : Int) (x1 : Int) (x2 : Int) (x3 : Int) (x4 : Int) (x5 : Int) (x6 : Int) (x7 : Int) (x8 : Int) (x9 : Int) : Ob := blk g #[.int .u8 x0, .int .i64 x1, .int .i64 x2, .int .i64 x3, .int .i64 x4, .int .i64 x5, .int .i64 x6, .int .i64 x7, .int .i64 x8, .int .u32 x9] 104

set_option maxHeartbeats 30000000 in
set_option maxRecDepth 100000 in
theorem ratio_Clamp.calls (a52 : Int) (a53 : Int) (a54 : Int) (r : Int) (w : World)   (HS : Aside0 (Sep (fps []) w [] w)) (H : Aside0 (ratio_Clamp.f a52 a53 a54 = some r)) :
    Calls Try.prog 123 #[.int .i64 a52, .int .i64 a53, .int .i64 a54] w fun e w' => e = .returned (.int .i64 r) ∧ Sep (fps []) w [] w' := by
  unfold ratio_Clamp.f at H
  go_enter Try.func123, Try.ntmps123
  by_cases c55 : a52 > a54
  · replace H := if_yes c55 H
    have c55b0 : decide (a54 < a52) = true := decide_eq_true c55
    clear c55
    go_wp2_with fail
    go_ret
    rw [← some_eq H]
    exact ⟨(by first | rfl | (simp [IntKind.wrap_u32]; done)), HS.out⟩
  · replace H := if_no c55 H
    have c55b0 : decide (a54 < a52) = false := decide_eq_false c55
    clear c55
    by_cases c56 : a52 < a53
    · replace H := if_yes c56 H
      have c56b0 : decide (a52 < a53) = true := decide_eq_true c56
      skip
      go_wp2_with fail
      clear c56
      go_ret
      rw [← some_eq H]
      exact ⟨(by first | rfl | (simp [IntKind.wrap_u32]; done)), HS.out⟩
    · replace H := if_no c56 H
      have c56b0 : decide (a52 < a53) = false := decide_eq_false c56
      skip
      go_wp2_with fail
      clear c56
      go_ret
      rw [← some_eq H]
      exact ⟨(by first | rfl | (simp [IntKind.wrap_u32]; done)), HS.out⟩

set_option maxHeartbeats 30000000 in
set_option maxRecDepth 100000 in
theorem plan_within.calls (a49 : Int) (a50 : Int) (a51 : Int) (r : Bool) (w : World)   (HS : Aside0 (Sep (fps []) w [] w)) (H : Aside0 (plan_within.f a49 a50 a51 = some r)) :
    Calls Try.prog 115 #[.int .i64 a49, .int .i64 a50, .int .i64 a51] w fun e w' => e = .returned (.bool r) ∧ Sep (fps []) w [] w' := by
  unfold plan_within.f at H
  go_enter Try.func115, Try.ntmps115
  go_wp2_with fail
  obtain ⟨t57, HA58, H⟩ := bind_some H
  refine (ratio_Clamp.calls a49 a50 a51 t57 _ ⟨Sep.start _⟩ HA58).mono ?_
  rintro e_ w59 ⟨rfl, hS⟩
  replace HS : Aside0 (Sep (fps []) w [] w59) := ⟨HS.out.call hS⟩
  clear hS
  go_wp2_with fail
  go_ret
  rw [← some_eq H]
  exact ⟨(by first | rfl | (simp [IntKind.wrap_u32]; done)), HS.out⟩

set_option maxHeartbeats 30000000 in
set_option maxRecDepth 100000 in
theorem plan_Check.calls (a41 : Int) (a42 : Int) (a43 : Int) (a44 : Int) (r : Int) (w : World)   (HS : Aside0 (Sep (fps []) w [] w)) (H : Aside0 (plan_Check.f a41 a42 a43 a44 = some r)) :
    Calls Try.prog 105 #[.agg #[.int .i64 a41, .int .i64 a42, .int .i64 a43, .int .i64 a44]] w fun e w' => e = .returned (.int .i64 r) ∧ Sep (fps []) w [] w' := by
  unfold plan_Check.f at H
  go_enter Try.func105, Try.ntmps105
  go_wp2_with (first | ((with_reducible refine gate_dst (N := 1) rfl ?_); refine box_on ?hg (N := 1) ?hd (cs := #[.int .i64 a41, .int .i64 a42, .int .i64 a43, .int .i64 a44]) (t := 49) ?hr ?_; (case hd => rfl); (case hg => rfl); (case hr => first | (go_simp; done) | (go_simp; rfl)); intro g45 hg w46 hbox hb; replace HS : Aside0 (Sep (fps []) w [b1 g45 a41 a42 a43 a44] w46) := ⟨HS.out.box hg hbox hb⟩; clear hg hbox hb; have hc48 : w46.cell? ⟨g45, 0, none⟩ = some (.int .i64 a41) := blk_cellv (HS.out.at0) 0 rfl))
  clear hc48
  obtain ⟨t60, HA61, H⟩ := bind_some H
  refine (plan_within.calls a41 1 1048576 t60 _ ⟨Sep.start _⟩ HA61).mono ?_
  rintro e_ w62 ⟨rfl, hS⟩
  replace HS : Aside0 (Sep (fps []) w [b1 g45 a41 a42 a43 a44] w62) := ⟨HS.out.call hS⟩
  clear hS
  by_cases c63 : t60 = true
  · replace H := if_yes c63 H
    have c63b0 : t60 = true := c63
    have c63b1 : (!t60) = false := by rw [c63b0]; rfl
    clear c63
    have hc64 : w62.cell? ⟨g45, 1, none⟩ = some (.int .i64 a42) := blk_cellv (HS.out.at0) 1 rfl
    go_wp2_with fail
    clear hc64
    obtain ⟨t65, HA66, H⟩ := bind_some H
    refine (plan_within.calls a42 16 256 t65 _ ⟨Sep.start _⟩ HA66).mono ?_
    rintro e_ w67 ⟨rfl, hS⟩
    replace HS : Aside0 (Sep (fps []) w [b1 g45 a41 a42 a43 a44] w67) := ⟨HS.out.call hS⟩
    clear hS
    by_cases c68 : t65 = true
    · replace H := if_yes c68 H
      have c68b0 : t65 = true := c68
      have c68b1 : (!t65) = false := by rw [c68b0]; rfl
      clear c68
      have hc69 : w67.cell? ⟨g45, 2, none⟩ = some (.int .i64 a43) := blk_cellv (HS.out.at0) 2 rfl
      go_wp2_with fail
      clear hc69
      obtain ⟨t70, HA71, H⟩ := bind_some H
      refine (plan_within.calls a43 1 4096 t70 _ ⟨Sep.start _⟩ HA71).mono ?_
      rintro e_ w72 ⟨rfl, hS⟩
      replace HS : Aside0 (Sep (fps []) w [b1 g45 a41 a42 a43 a44] w72) := ⟨HS.out.call hS⟩
      clear hS
      by_cases c73 : t70 = true
      · replace H := if_yes c73 H
        have c73b0 : t70 = true := c73
        have c73b1 : (!t70) = false := by rw [c73b0]; rfl
        clear c73
        have hc74 : w72.cell? ⟨g45, 3, none⟩ = some (.int .i64 a44) := blk_cellv (HS.out.at0) 3 rfl
        go_wp2_with fail
        clear hc74
        obtain ⟨t75, HA76, H⟩ := bind_some H
        refine (plan_within.calls a44 1 65536 t75 _ ⟨Sep.start _⟩ HA76).mono ?_
        rintro e_ w77 ⟨rfl, hS⟩
        replace HS : Aside0 (Sep (fps []) w [b1 g45 a41 a42 a43 a44] w77) := ⟨HS.out.call hS⟩
        clear hS
        by_cases c78 : t75 = true
        · replace H := if_yes c78 H
          have c78b0 : t75 = true := c78
          have c78b1 : (!t75) = false := by rw [c78b0]; rfl
          clear c78
          by_cases c81 : (wrap64 (a41 * a42)) ≤ 4194304
          · replace H := if_yes c81 H
            have c81b0 : decide ((wrap64 (a41 * a42)) ≤ 4194304) = true := decide_eq_true c81
            clear c81
            have hc79 : w77.cell? ⟨g45, 0, none⟩ = some (.int .i64 a41) := blk_cellv (HS.out.at0) 0 rfl
            have hc80 : w77.cell? ⟨g45, 1, none⟩ = some (.int .i64 a42) := blk_cellv (HS.out.at0) 1 rfl
            replace HS : Aside0 (Sep (fps []) w [] w77) := ⟨HS.out.sub (.cons _ .slnil)⟩
            go_wp2_with fail
            clear hc79 hc80
            go_ret
            rw [← some_eq H]
            exact ⟨(by first | rfl | (simp [IntKind.wrap_u32]; done)), HS.out⟩
          · replace H := if_no c81 H
            have c81b0 : decide ((wrap64 (a41 * a42)) ≤ 4194304) = false := decide_eq_false c81
            clear c81
            have hc79 : w77.cell? ⟨g45, 0, none⟩ = some (.int .i64 a41) := blk_cellv (HS.out.at0) 0 rfl
            have hc80 : w77.cell? ⟨g45, 1, none⟩ = some (.int .i64 a42) := blk_cellv (HS.out.at0) 1 rfl
            replace HS : Aside0 (Sep (fps []) w [] w77) := ⟨HS.out.sub (.cons _ .slnil)⟩
            go_wp2_with fail
            clear hc79 hc80
            go_ret
            rw [← some_eq H]
            exact ⟨(by first | rfl | (simp [IntKind.wrap_u32]; done)), HS.out⟩
        · replace H := if_no c78 H
          have c78b0 : t75 = false := by simpa using c78
          have c78b1 : (!t75) = true := by rw [c78b0]; rfl
          clear c78
          replace HS : Aside0 (Sep (fps []) w [] w77) := ⟨HS.out.sub (.cons _ .slnil)⟩
          go_wp2_with fail
          go_ret
          rw [← some_eq H]
          exact ⟨(by first | rfl | (simp [IntKind.wrap_u32]; done)), HS.out⟩
      · replace H := if_no c73 H
        have c73b0 : t70 = false := by simpa using c73
        have c73b1 : (!t70) = true := by rw [c73b0]; rfl
        clear c73
        replace HS : Aside0 (Sep (fps []) w [] w72) := ⟨HS.out.sub (.cons _ .slnil)⟩
        go_wp2_with fail
        go_ret
        rw [← some_eq H]
        exact ⟨(by first | rfl | (simp [IntKind.wrap_u32]; done)), HS.out⟩
    · replace H := if_no c68 H
      have c68b0 : t65 = false := by simpa using c68
      have c68b1 : (!t65) = true := by rw [c68b0]; rfl
      clear c68
      replace HS : Aside0 (Sep (fps []) w [] w67) := ⟨HS.out.sub (.cons _ .slnil)⟩
      go_wp2_with fail
      go_ret
      rw [← some_eq H]
      exact ⟨(by first | rfl | (simp [IntKind.wrap_u32]; done)), HS.out⟩
  · replace H := if_no c63 H
    have c63b0 : t60 = false := by simpa using c63
    have c63b1 : (!t60) = true := by rw [c63b0]; rfl
    clear c63
    replace HS : Aside0 (Sep (fps []) w [] w62) := ⟨HS.out.sub (.cons _ .slnil)⟩
    go_wp2_with fail
    go_ret
    rw [← some_eq H]
    exact ⟨(by first | rfl | (simp [IntKind.wrap_u32]; done)), HS.out⟩

set_option maxHeartbeats 30000000 in
set_option maxRecDepth 100000 in
theorem ratio_counts.calls (a114 : Int) (r : Int) (w : World)   (HS : Aside0 (Sep (fps []) w [] w)) (H : Aside0 (ratio_counts.f a114 = some r)) :
    Calls Try.prog 116 #[.int .i64 a114] w fun e w' => e = .returned (.int .i64 r) ∧ Sep (fps []) w [] w' := by
  unfold ratio_counts.f at H
  go_enter Try.func116, Try.ntmps116
  go_wp2_with fail
  obtain ⟨t115, HA116, H⟩ := bind_some H
  refine (ratio_Clamp.calls a114 0 1125899906842624 t115 _ ⟨Sep.start _⟩ HA116).mono ?_
  rintro e_ w117 ⟨rfl, hS⟩
  replace HS : Aside0 (Sep (fps []) w [] w117) := ⟨HS.out.call hS⟩
  clear hS
  go_wp2_with fail
  go_ret
  rw [← some_eq H]
  exact ⟨(by first | rfl | (simp [IntKind.wrap_u32]; done)), HS.out⟩

set_option maxHeartbeats 30000000 in
set_option maxRecDepth 100000 in
theorem ratio_zero.calls (a113 : Int) (r : Bool) (w : World)   (HS : Aside0 (Sep (fps []) w [] w)) (H : Aside0 (ratio_zero.f a113 = some r)) :
    Calls Try.prog 118 #[.int .i64 a113] w fun e w' => e = .returned (.bool r) ∧ Sep (fps []) w [] w' := by
  unfold ratio_zero.f at H
  go_enter Try.func118, Try.ntmps118
  go_wp2_with fail
  obtain ⟨t118, HA119, H⟩ := bind_some H
  refine (ratio_counts.calls a113 t118 _ ⟨Sep.start _⟩ HA119).mono ?_
  rintro e_ w120 ⟨rfl, hS⟩
  replace HS : Aside0 (Sep (fps []) w [] w120) := ⟨HS.out.call hS⟩
  clear hS
  go_wp2_with fail
  go_ret
  rw [← some_eq H]
  exact ⟨(by first | rfl | (simp [IntKind.wrap_u32]; done)), HS.out⟩

set_option maxHeartbeats 30000000 in
set_option maxRecDepth 100000 in
theorem slices_IndexFunc_int_int_F118.calls (k : Nat) (l99 : List Int) (A100 : Option Addr) (n101 : Nat) (r : Int) (w : World) (HR102 : Aside0 (Rd (Kd.int .i64) (fps []) w A100 l99.length l99))  (HS : Aside0 (Sep (fps []) w [] w)) (H : Aside0 (slices_IndexFunc_int_int_F118.f k l99 = some r)) :
    Calls Try.prog 124 #[.slice A100 l99.length n101, .func (.func 118) #[] #[]] w fun e w' => e = .returned (.int .i64 r) ∧ Sep (fps []) w [] w' := by
  unfold slices_IndexFunc_int_int_F118.f at H
  go_enter Try.func124, Try.ntmps124
  go_wp2_with fail
  obtain ⟨o125, AL126, H⟩ := bind_some H
  go_loopg [8] k (fun kq v8 wc => ∃ (x129 : Int), v8 = .int .i64 x129 ∧ Aside0 (slices_IndexFunc_int_int_F118.lo0 kq l99 x129 = some o125) ∧ Aside0 (Sep (fps []) w [] wc))
  case atStart => exact ⟨(0), (by first | rfl | (simp [IntKind.wrap_u32]; done)), AL126, ⟨HS.out⟩⟩
  case round =>
    clear AL126 HS
    obtain ⟨x129, rfl, AL126, HS⟩ := hrel
    obtain ⟨w127, rfl⟩ : ∃ x : World, x = wr := ⟨_, rfl⟩
    cases gk with
    | zero => exact absurd AL126.out (by simp [slices_IndexFunc_int_int_F118.lo0])
    | succ k128 =>
      have AL0 := AL126.out
      rw [slices_IndexFunc_int_int_F118.lo0] at AL0
      clear AL126
      have AL126 := Aside0.mk AL0
      clear AL0
      by_cases c130 : x129 < (l99.length : Int)
      · replace AL126 := if_yes c130 AL126
        have c130b0 : decide (x129 < (l99.length : Int)) = true := decide_eq_true c130
        clear c130
        by_cases c131 : 0 ≤ x129
        · replace AL126 := if_yes c131 AL126
          have c131b0 : decide (0 ≤ x129) = true := decide_eq_true c131
          have c131p : (0 ≤ x129) = True := eq_true c131
          clear c131
          have ip132 : (x129 < (l99.length : Int)) = True := eq_true (of_decide_eq_true c130b0)
          obtain ⟨hx133a, hx133e, hx133⟩ := Kd.at_int (Rd.read (fun _ _ _ _ h => h) HR102.out HS.out.fr) x129 (of_decide_eq_true c131b0) (of_decide_eq_true c130b0); cases hx133e
          go_wp2_with fail
          clear hx133
          obtain ⟨t121, HA134, AL126⟩ := bind_some AL126
          refine (ratio_zero.calls (rd l99 x129) t121 _ ⟨Sep.start _⟩ HA134).mono ?_
          rintro e_ w135 ⟨rfl, hS⟩
          replace HS : Aside0 (Sep (fps []) w [] w135) := ⟨HS.out.call hS⟩
          clear hS
          by_cases c136 : t121 = true
          · replace AL126 := if_yes c136 AL126
            have c136b0 : t121 = true := c136
            have c136b1 : (!t121) = false := by rw [c136b0]; rfl
            clear c136
            go_wp2_with fail
            have ho := some_eq AL126
            subst ho
            have H := lp_ret H
            go_ret
            rw [← some_eq H]
            exact ⟨(by first | rfl | (simp [IntKind.wrap_u32]; done)), HS.out⟩
          · replace AL126 := if_no c136 AL126
            have c136b0 : t121 = false := by simpa using c136
            have c136b1 : (!t121) = true := by rw [c136b0]; rfl
            clear c136
            go_wp2_with fail
            go_roundg k128
            case measure => exact Nat.lt_succ_self _
            case rel => exact ⟨(wrap64 (x129 + 1)), (by first | rfl | (simp [IntKind.wrap_u32]; done)), Aside0.mk AL126.out, ⟨HS.out⟩⟩
        · replace AL126 := if_no c131 AL126
          have c131b0 : decide (0 ≤ x129) = false := decide_eq_false c131
          clear c131
          exact (none_no AL126).elim
      · replace AL126 := if_no c130 AL126
        have c130b0 : decide (x129 < (l99.length : Int)) = false := decide_eq_false c130
        clear c130
        have ho := some_eq AL126
        subst ho
        clear AL126
        have H := lp_out H
        go_wp2_with fail
        go_ret
        rw [← some_eq H]
        exact ⟨(by first | rfl | (simp [IntKind.wrap_u32]; done)), HS.out⟩

set_option maxHeartbeats 30000000 in
set_option maxRecDepth 100000 in
theorem slices_ContainsFunc_int_int_F118.calls (k : Nat) (l95 : List Int) (A96 : Option Addr) (n97 : Nat) (r : Bool) (w : World) (HR98 : Aside0 (Rd (Kd.int .i64) (fps []) w A96 l95.length l95))  (HS : Aside0 (Sep (fps []) w [] w)) (H : Aside0 (slices_ContainsFunc_int_int_F118.f k l95 = some r)) :
    Calls Try.prog 117 #[.slice A96 l95.length n97, .func (.func 118) #[] #[]] w fun e w' => e = .returned (.bool r) ∧ Sep (fps []) w [] w' := by
  unfold slices_ContainsFunc_int_int_F118.f at H
  go_enter Try.func117, Try.ntmps117
  go_wp2_with fail
  obtain ⟨t138, HA139, H⟩ := bind_some H
  refine (slices_IndexFunc_int_int_F118.calls _ l95 A96 n97 t138 _ ⟨Rd.pass (l := []) (by decide) (fun _ _ _ _ h => h) HR98.out HS.out⟩ ⟨Sep.start _⟩ HA139).mono ?_
  rintro e_ w140 ⟨rfl, hS⟩
  replace HS : Aside0 (Sep (fps []) w [] w140) := ⟨HS.out.call hS⟩
  clear hS
  go_wp2_with fail
  go_ret
  rw [← some_eq H]
  exact ⟨(by first | rfl | (simp [IntKind.wrap_u32]; done)), HS.out⟩

set_option maxHeartbeats 30000000 in
set_option maxRecDepth 100000 in
theorem ratio_Mul.calls (k : Nat) (l91 : List Int) (A92 : Option Addr) (n93 : Nat) (r : Int) (w : World) (HR94 : Aside0 (Rd (Kd.int .i64) (fps []) w A92 l91.length l91))  (HS : Aside0 (Sep (fps []) w [] w)) (H : Aside0 (ratio_Mul.f k l91 = some r)) :
    Calls Try.prog 107 #[.slice A92 l91.length n93] w fun e w' => e = .returned (.int .i64 r) ∧ Sep (fps []) w [] w' := by
  unfold ratio_Mul.f at H
  go_enter Try.func107, Try.ntmps107
  go_wp2_with fail
  obtain ⟨t141, HA142, H⟩ := bind_some H
  refine (slices_ContainsFunc_int_int_F118.calls _ l91 A92 n93 t141 _ ⟨Rd.pass (l := []) (by decide) (fun _ _ _ _ h => h) HR94.out HS.out⟩ ⟨Sep.start _⟩ HA142).mono ?_
  rintro e_ w143 ⟨rfl, hS⟩
  replace HS : Aside0 (Sep (fps []) w [] w143) := ⟨HS.out.call hS⟩
  clear hS
  by_cases c144 : t141 = true
  · replace H := if_yes c144 H
    have c144b0 : t141 = true := c144
    have c144b1 : (!t141) = false := by rw [c144b0]; rfl
    clear c144
    go_wp2_with fail
    go_ret
    rw [← some_eq H]
    exact ⟨(by first | rfl | (simp [IntKind.wrap_u32]; done)), HS.out⟩
  · replace H := if_no c144 H
    have c144b0 : t141 = false := by simpa using c144
    have c144b1 : (!t141) = true := by rw [c144b0]; rfl
    clear c144
    go_wp2_with fail
    obtain ⟨o146, AL147, H⟩ := bind_some H
    go_loopg [3, 11] k (fun kq v3 v11 wc => ∃ (x150 : Int) (x151 : Int), v3 = .int .i64 x150 ∧ v11 = .int .i64 x151 ∧ Aside0 (ratio_Mul.lo0 kq l91 x150 x151 = some o146) ∧ Aside0 (Sep (fps []) w [] wc))
    case atStart => exact ⟨(1), (0), (by first | rfl | (simp [IntKind.wrap_u32]; done)), (by first | rfl | (simp [IntKind.wrap_u32]; done)), AL147, ⟨HS.out⟩⟩
    case round =>
      clear AL147 HS
      obtain ⟨x150, x151, rfl, rfl, AL147, HS⟩ := hrel
      obtain ⟨w148, rfl⟩ : ∃ x : World, x = wr := ⟨_, rfl⟩
      cases gk with
      | zero => exact absurd AL147.out (by simp [ratio_Mul.lo0])
      | succ k149 =>
        have AL0 := AL147.out
        rw [ratio_Mul.lo0] at AL0
        clear AL147
        have AL147 := Aside0.mk AL0
        clear AL0
        by_cases c152 : x151 < (l91.length : Int)
        · replace AL147 := if_yes c152 AL147
          have c152b0 : decide (x151 < (l91.length : Int)) = true := decide_eq_true c152
          clear c152
          by_cases c153 : 0 ≤ x151
          · replace AL147 := if_yes c153 AL147
            have c153b0 : decide (0 ≤ x151) = true := decide_eq_true c153
            have c153p : (0 ≤ x151) = True := eq_true c153
            clear c153
            have ip154 : (x151 < (l91.length : Int)) = True := eq_true (of_decide_eq_true c152b0)
            obtain ⟨hx155a, hx155e, hx155⟩ := Kd.at_int (Rd.read (fun _ _ _ _ h => h) HR94.out HS.out.fr) x151 (of_decide_eq_true c153b0) (of_decide_eq_true c152b0); cases hx155e
            go_wp2_with fail
            clear hx155
            obtain ⟨t156, HA157, AL147⟩ := bind_some AL147
            refine (ratio_counts.calls (rd l91 x151) t156 _ ⟨Sep.start _⟩ HA157).mono ?_
            rintro e_ w158 ⟨rfl, hS⟩
            replace HS : Aside0 (Sep (fps []) w [] w158) := ⟨HS.out.call hS⟩
            clear hS
            by_cases c159 : t156 = 0
            · replace AL147 := if_yes c159 AL147
              have c159b0 : (t156 == 0) = true := beq_iff_eq.mpr c159
              have c159b1 : (t156 != 0) = false := bne_eq_false_iff_eq.mpr c159
              exact (none_no AL147).elim
            · replace AL147 := if_no c159 AL147
              have c159b0 : (t156 == 0) = false := beq_eq_false_iff_ne.mpr c159
              have c159b1 : (t156 != 0) = true := bne_iff_ne.mpr c159
              by_cases c160 : x150 ≤ (wrap64 (Int.tdiv (1125899906842624 : Int) t156))
              · replace AL147 := if_yes c160 AL147
                have c160b0 : decide (x150 ≤ (wrap64 (Int.tdiv (1125899906842624 : Int) t156))) = true := decide_eq_true c160
                clear c160
                skip
                go_wp2_with fail
                clear c159
                go_roundg k149
                case measure => exact Nat.lt_succ_self _
                case rel => exact ⟨(wrap64 (x150 * t156)), (wrap64 (x151 + 1)), (by first | rfl | (simp [IntKind.wrap_u32]; done)), (by first | rfl | (simp [IntKind.wrap_u32]; done)), Aside0.mk AL147.out, ⟨HS.out⟩⟩
              · replace AL147 := if_no c160 AL147
                have c160b0 : decide (x150 ≤ (wrap64 (Int.tdiv (1125899906842624 : Int) t156))) = false := decide_eq_false c160
                clear c160
                skip
                go_wp2_with fail
                clear c159
                go_roundg k149
                case measure => exact Nat.lt_succ_self _
                case rel => exact ⟨(1125899906842624), (wrap64 (x151 + 1)), (by first | rfl | (simp [IntKind.wrap_u32]; done)), (by first | rfl | (simp [IntKind.wrap_u32]; done)), Aside0.mk AL147.out, ⟨HS.out⟩⟩
          · replace AL147 := if_no c153 AL147
            have c153b0 : decide (0 ≤ x151) = false := decide_eq_false c153
            clear c153
            exact (none_no AL147).elim
        · replace AL147 := if_no c152 AL147
          have c152b0 : decide (x151 < (l91.length : Int)) = false := decide_eq_false c152
          clear c152
          have ho := some_eq AL147
          subst ho
          clear AL147
          go_wp2_with fail
          go_ret
          rw [← some_eq H]
          exact ⟨(by first | rfl | (simp [IntKind.wrap_u32]; done)), HS.out⟩

set_option maxHeartbeats 30000000 in
set_option maxRecDepth 100000 in
theorem ratio_Add.calls (k : Nat) (l168 : List Int) (A169 : Option Addr) (n170 : Nat) (r : Int) (w : World) (HR171 : Aside0 (Rd (Kd.int .i64) (fps []) w A169 l168.length l168))  (HS : Aside0 (Sep (fps []) w [] w)) (H : Aside0 (ratio_Add.f k l168 = some r)) :
    Calls Try.prog 106 #[.slice A169 l168.length n170] w fun e w' => e = .returned (.int .i64 r) ∧ Sep (fps []) w [] w' := by
  unfold ratio_Add.f at H
  go_enter Try.func106, Try.ntmps106
  go_wp2_with fail
  obtain ⟨o173, AL174, H⟩ := bind_some H
  go_loopg [3, 8] k (fun kq v3 v8 wc => ∃ (x177 : Int) (x178 : Int), v3 = .int .i64 x177 ∧ v8 = .int .i64 x178 ∧ Aside0 (ratio_Add.lo0 kq l168 x177 x178 = some o173) ∧ Aside0 (Sep (fps []) w [] wc))
  case atStart => exact ⟨(0), (0), (by first | rfl | (simp [IntKind.wrap_u32]; done)), (by first | rfl | (simp [IntKind.wrap_u32]; done)), AL174, ⟨HS.out⟩⟩
  case round =>
    clear AL174 HS
    obtain ⟨x177, x178, rfl, rfl, AL174, HS⟩ := hrel
    obtain ⟨w175, rfl⟩ : ∃ x : World, x = wr := ⟨_, rfl⟩
    cases gk with
    | zero => exact absurd AL174.out (by simp [ratio_Add.lo0])
    | succ k176 =>
      have AL0 := AL174.out
      rw [ratio_Add.lo0] at AL0
      clear AL174
      have AL174 := Aside0.mk AL0
      clear AL0
      by_cases c179 : x178 < (l168.length : Int)
      · replace AL174 := if_yes c179 AL174
        have c179b0 : decide (x178 < (l168.length : Int)) = true := decide_eq_true c179
        clear c179
        by_cases c180 : 0 ≤ x178
        · replace AL174 := if_yes c180 AL174
          have c180b0 : decide (0 ≤ x178) = true := decide_eq_true c180
          have c180p : (0 ≤ x178) = True := eq_true c180
          clear c180
          have ip181 : (x178 < (l168.length : Int)) = True := eq_true (of_decide_eq_true c179b0)
          obtain ⟨hx182a, hx182e, hx182⟩ := Kd.at_int (Rd.read (fun _ _ _ _ h => h) HR171.out HS.out.fr) x178 (of_decide_eq_true c180b0) (of_decide_eq_true c179b0); cases hx182e
          go_wp2_with fail
          clear hx182
          obtain ⟨t183, HA184, AL174⟩ := bind_some AL174
          refine (ratio_counts.calls (rd l168 x178) t183 _ ⟨Sep.start _⟩ HA184).mono ?_
          rintro e_ w185 ⟨rfl, hS⟩
          replace HS : Aside0 (Sep (fps []) w [] w185) := ⟨HS.out.call hS⟩
          clear hS
          by_cases c186 : 1125899906842624 < (wrap64 (x177 + t183))
          · replace AL174 := if_yes c186 AL174
            have c186b0 : decide (1125899906842624 < (wrap64 (x177 + t183))) = true := decide_eq_true c186
            skip
            go_wp2_with fail
            clear c186
            go_roundg k176
            case measure => exact Nat.lt_succ_self _
            case rel => exact ⟨(1125899906842624), (wrap64 (x178 + 1)), (by first | rfl | (simp [IntKind.wrap_u32]; done)), (by first | rfl | (simp [IntKind.wrap_u32]; done)), Aside0.mk AL174.out, ⟨HS.out⟩⟩
          · replace AL174 := if_no c186 AL174
            have c186b0 : decide (1125899906842624 < (wrap64 (x177 + t183))) = false := decide_eq_false c186
            skip
            go_wp2_with fail
            clear c186
            go_roundg k176
            case measure => exact Nat.lt_succ_self _
            case rel => exact ⟨(wrap64 (x177 + t183)), (wrap64 (x178 + 1)), (by first | rfl | (simp [IntKind.wrap_u32]; done)), (by first | rfl | (simp [IntKind.wrap_u32]; done)), Aside0.mk AL174.out, ⟨HS.out⟩⟩
        · replace AL174 := if_no c180 AL174
          have c180b0 : decide (0 ≤ x178) = false := decide_eq_false c180
          clear c180
          exact (none_no AL174).elim
      · replace AL174 := if_no c179 AL174
        have c179b0 : decide (x178 < (l168.length : Int)) = false := decide_eq_false c179
        clear c179
        have ho := some_eq AL174
        subst ho
        clear AL174
        go_wp2_with fail
        go_ret
        rw [← some_eq H]
        exact ⟨(by first | rfl | (simp [IntKind.wrap_u32]; done)), HS.out⟩

set_option maxHeartbeats 30000000 in
set_option maxRecDepth 100000 in
theorem ratio_by.calls (a397 : Int) (r : Int) (w : World)   (HS : Aside0 (Sep (fps []) w [] w)) (H : Aside0 (ratio_by.f a397 = some r)) :
    Calls Try.prog 119 #[.int .i64 a397] w fun e w' => e = .returned (.int .i64 r) ∧ Sep (fps []) w [] w' := by
  unfold ratio_by.f at H
  go_enter Try.func119, Try.ntmps119
  go_wp2_with fail
  obtain ⟨t398, HA399, H⟩ := bind_some H
  refine (ratio_counts.calls a397 t398 _ ⟨Sep.start _⟩ HA399).mono ?_
  rintro e_ w400 ⟨rfl, hS⟩
  replace HS : Aside0 (Sep (fps []) w [] w400) := ⟨HS.out.call hS⟩
  clear hS
  by_cases c401 : t398 < 1
  · replace H := if_yes c401 H
    have c401b0 : decide (t398 < 1) = true := decide_eq_true c401
    skip
    go_wp2_with fail
    clear c401
    go_ret
    rw [← some_eq H]
    exact ⟨(by first | rfl | (simp [IntKind.wrap_u32]; done)), HS.out⟩
  · replace H := if_no c401 H
    have c401b0 : decide (t398 < 1) = false := decide_eq_false c401
    skip
    go_wp2_with fail
    clear c401
    go_ret
    rw [← some_eq H]
    exact ⟨(by first | rfl | (simp [IntKind.wrap_u32]; done)), HS.out⟩

set_option maxHeartbeats 30000000 in
set_option maxRecDepth 100000 in
theorem ratio_Up.calls (a392 : Int) (a393 : Int) (r : Int) (w : World)   (HS : Aside0 (Sep (fps []) w [] w)) (H : Aside0 (ratio_Up.f a392 a393 = some r)) :
    Calls Try.prog 108 #[.int .i64 a392, .int .i64 a393] w fun e w' => e = .returned (.int .i64 r) ∧ Sep (fps []) w [] w' := by
  unfold ratio_Up.f at H
  go_enter Try.func108, Try.ntmps108
  go_wp2_with fail
  obtain ⟨t394, HA395, H⟩ := bind_some H
  refine (ratio_counts.calls a392 t394 _ ⟨Sep.start _⟩ HA395).mono ?_
  rintro e_ w396 ⟨rfl, hS⟩
  replace HS : Aside0 (Sep (fps []) w [] w396) := ⟨HS.out.call hS⟩
  clear hS
  go_wp2_with fail
  obtain ⟨t402, HA403, H⟩ := bind_some H
  refine (ratio_by.calls a393 t402 _ ⟨Sep.start _⟩ HA403).mono ?_
  rintro e_ w404 ⟨rfl, hS⟩
  replace HS : Aside0 (Sep (fps []) w [] w404) := ⟨HS.out.call hS⟩
  clear hS
  go_wp2_with fail
  obtain ⟨t405, HA406, H⟩ := bind_some H
  refine (ratio_by.calls a393 t405 _ ⟨Sep.start _⟩ HA406).mono ?_
  rintro e_ w407 ⟨rfl, hS⟩
  replace HS : Aside0 (Sep (fps []) w [] w407) := ⟨HS.out.call hS⟩
  clear hS
  by_cases c408 : t405 = 0
  · replace H := if_yes c408 H
    have c408b0 : (t405 == 0) = true := beq_iff_eq.mpr c408
    have c408b1 : (t405 != 0) = false := bne_eq_false_iff_eq.mpr c408
    exact (none_no H).elim
  · replace H := if_no c408 H
    have c408b0 : (t405 == 0) = false := beq_eq_false_iff_ne.mpr c408
    have c408b1 : (t405 != 0) = true := bne_iff_ne.mpr c408
    skip
    go_wp2_with fail
    clear c408
    go_ret
    rw [← some_eq H]
    exact ⟨(by first | rfl | (simp [IntKind.wrap_u32]; done)), HS.out⟩

set_option maxHeartbeats 30000000 in
set_option maxRecDepth 100000 in
theorem plan_Of.calls (k : Nat) (a27 : Int) (a28 : Int) (a29 : Int) (a30 : Int) (r : Int × Int × Int × Int × Int × Int × Int × Int × Int) (w : World)   (HS : Aside0 (Sep (fps []) w [] w)) (H : Aside0 (plan_Of.f k a27 a28 a29 a30 = some r)) :
    Calls Try.prog 76 #[.agg #[.int .i64 a27, .int .i64 a28, .int .i64 a29, .int .i64 a30]] w fun e w' => e = .returned (.tuple #[.agg #[.int .i64 r.1, .int .i64 r.2.1, .int .i64 r.2.2.1, .int .i64 r.2.2.2.1, .int .i64 r.2.2.2.2.1, .int .i64 r.2.2.2.2.2.1, .int .i64 r.2.2.2.2.2.2.1, .int .i64 r.2.2.2.2.2.2.2.1], .int .i64 r.2.2.2.2.2.2.2.2]) ∧ Sep (fps []) w [] w' := by
  unfold plan_Of.f at H
  go_enter Try.func76, Try.ntmps76
  go_wp2_with (first | ((with_reducible refine gate_dst (N := 1) rfl ?_); refine box_on ?hg (N := 1) ?hd (cs := #[.int .i64 a27, .int .i64 a28, .int .i64 a29, .int .i64 a30]) (t := 49) ?hr ?_; (case hd => rfl); (case hg => rfl); (case hr => first | (go_simp; done) | (go_simp; rfl)); intro g31 hg w32 hbox hb; replace HS : Aside0 (Sep (fps []) w [b1 g31 a27 a28 a29 a30] w32) := ⟨HS.out.box hg hbox hb⟩; clear hg hbox hb) | ((with_reducible refine gate_dst (N := 2) rfl ?_); refine box_on ?hg (N := 2) ?hd (cs := #[.int .i64 0, .int .i64 0, .int .i64 0, .int .i64 0, .int .i64 0, .int .i64 0, .int .i64 0, .int .i64 0]) (t := 120) ?hr ?_; (case hd => rfl); (case hg => rfl); (case hr => first | (go_simp; done) | (go_simp; rfl)); intro g34 hg w35 hbox hb; replace HS : Aside0 (Sep (fps []) w [b1 g31 a27 a28 a29 a30, b2 g34 0 0 0 0 0 0 0 0] w35) := ⟨HS.out.box hg hbox hb⟩; clear hg hbox hb; have hc37 : w35.cell? ⟨g31, 0, none⟩ = some (.int .i64 a27) := blk_cellv (HS.out.at0) 0 rfl; have hc38 : w35.cell? ⟨g31, 1, none⟩ = some (.int .i64 a28) := blk_cellv (HS.out.at0) 1 rfl; have hc39 : w35.cell? ⟨g31, 2, none⟩ = some (.int .i64 a29) := blk_cellv (HS.out.at0) 2 rfl; have hc40 : w35.cell? ⟨g31, 3, none⟩ = some (.int .i64 a30) := blk_cellv (HS.out.at0) 3 rfl))
  clear hc37 hc38 hc39 hc40
  obtain ⟨t82, HA83, H⟩ := bind_some H
  refine (plan_Check.calls a27 a28 a29 a30 t82 _ ⟨Sep.start _⟩ HA83).mono ?_
  rintro e_ w84 ⟨rfl, hS⟩
  replace HS : Aside0 (Sep (fps []) w [b1 g31 a27 a28 a29 a30, b2 g34 0 0 0 0 0 0 0 0] w84) := ⟨HS.out.call hS⟩
  clear hS
  by_cases c85 : t82 = 0
  · replace H := if_yes c85 H
    have c85b0 : (t82 == 0) = true := beq_iff_eq.mpr c85
    have c85b1 : (t82 != 0) = false := bne_eq_false_iff_eq.mpr c85
    clear c85
    go_wp2_with fail
    obtain ⟨t162, HA163, H⟩ := bind_some H
    obtain ⟨t188, HA189, H⟩ := bind_some H
    go_cut [5] (fun v5 wc => ∃ (g88 : Nat) (g165 : Nat) (g191 : Nat), v5 = .pointer (some ⟨g191, 0, none⟩) ∧ Aside0 (Sep (fps []) w [b1 g31 a27 a28 a29 a30, b2 g34 0 0 0 0 0 0 0 0, b3 g88 a27 a28, b4 g165 24 a29 t162, b2 g191 t188 (wrap64 (a28 - 8)) 0 0 0 0 0 0] wc))
    case first =>
      go_wp2_with fail
      refine start_ (n := 16) (S := (fun w' => w'.cell? ⟨g31, 2, none⟩ = some (.int .i64 a29) ∧ w'.cell? ⟨g31, 0, none⟩ = some (.int .i64 a27) ∧ w'.cell? ⟨g31, 1, none⟩ = some (.int .i64 a28))) (ds := []) #[false, false, false, false, false, false, false, false, false, false, false, false, false, false, false, false] (by kernel_rfl) rfl rfl (⟨blk_cellv ((HS.out.drew).at0) 2 rfl, blk_cellv ((HS.out.drew).at0) 0 rfl, blk_cellv ((HS.out.drew).at0) 1 rfl⟩) (fun hHeld => ?_)
      have HS_ := Aside0.mk HS.out.drew
      clear HS
      generalize World.drew _ = w213 at HS_ hHeld ⊢
      have HS := HS_
      clear HS_
      refine pure_ (i := 0) (N := some 12) (v := ?_) (a' := ?_) #[true, false, false, false, false, false, false, false, false, false, false, false, false, false, false, false] rfl rfl (by kernel_rfl) (fun _ _ _ h => h) (Or.inl ⟨by rfl, ?_⟩) ?_ ?_
      rotate_left
      · intro w'
        go_simp
        with_reducible rfl
      rotate_left
      · simp only [Act.put, List.setIfInBounds_toArray, List.set_cons_zero, List.set_cons_succ, i64_w, i32_w]
        rfl
      refine pure_ (i := 2) (N := some 14) (v := ?_) (a' := ?_) #[true, false, true, false, false, false, false, false, false, false, false, false, false, false, false, false] rfl rfl (by kernel_rfl) (fun _ _ _ h => h) (Or.inl ⟨by rfl, ?_⟩) ?_ ?_
      rotate_left
      · intro w'
        go_simp
        with_reducible rfl
      rotate_left
      · simp only [Act.put, List.setIfInBounds_toArray, List.set_cons_zero, List.set_cons_succ, i64_w, i32_w]
        rfl
      refine pure_ (i := 4) (N := some 16) (v := ?_) (a' := ?_) #[true, false, true, false, true, false, false, false, false, false, false, false, false, false, false, false] rfl rfl (by kernel_rfl) (fun _ _ _ h => h) (Or.inl ⟨by rfl, ?_⟩) ?_ ?_
      rotate_left
      · intro w'
        go_simp
        with_reducible rfl
      rotate_left
      · simp only [Act.put, List.setIfInBounds_toArray, List.set_cons_zero, List.set_cons_succ, i64_w, i32_w]
        rfl
      refine pure_ (i := 10) (N := some 22) (v := ?_) (a' := ?_) #[true, false, true, false, true, false, false, false, false, false, true, false, false, false, false, false] rfl rfl (by kernel_rfl) (fun _ _ _ h => h) (Or.inl ⟨by rfl, ?_⟩) ?_ ?_
      rotate_left
      · intro w'
        go_simp
        with_reducible rfl
      rotate_left
      · simp only [Act.put, List.setIfInBounds_toArray, List.set_cons_zero, List.set_cons_succ, i64_w, i32_w]
        rfl
      refine take_ (i := 1) (N := some 13) (v := ?_) (a' := ?_) #[true, true, true, false, true, false, false, false, false, false, true, false, false, false, false, false] rfl rfl (by kernel_rfl) (fun _ _ _ h => h) (Or.inl ⟨by rfl, ?_⟩) hHeld ?_ ?_
      rotate_left
      · rintro w' hS'
        obtain ⟨s0, s1, s2⟩ := hS'
        go_simp
        with_reducible rfl
      rotate_left
      · simp only [Act.put, List.setIfInBounds_toArray, List.set_cons_zero, List.set_cons_succ, i64_w, i32_w]
        rfl
      refine take_ (i := 3) (N := some 15) (v := ?_) (a' := ?_) #[true, true, true, true, true, false, false, false, false, false, true, false, false, false, false, false] rfl rfl (by kernel_rfl) (fun _ _ _ h => h) (Or.inl ⟨by rfl, ?_⟩) hHeld ?_ ?_
      rotate_left
      · rintro w' hS'
        obtain ⟨s0, s1, s2⟩ := hS'
        go_simp
        with_reducible rfl
      rotate_left
      · simp only [Act.put, List.setIfInBounds_toArray, List.set_cons_zero, List.set_cons_succ, i64_w, i32_w]
        rfl
      refine take_ (i := 5) (N := some 17) (v := ?_) (a' := ?_) #[true, true, true, true, true, true, false, false, false, false, true, false, false, false, false, false] rfl rfl (by kernel_rfl) (fun _ _ _ h => h) (Or.inl ⟨by rfl, ?_⟩) hHeld ?_ ?_
      rotate_left
      · rintro w' hS'
        obtain ⟨s0, s1, s2⟩ := hS'
        go_simp
        with_reducible rfl
      rotate_left
      · simp only [Act.put, List.setIfInBounds_toArray, List.set_cons_zero, List.set_cons_succ, i64_w, i32_w]
        rfl
      refine take_ (i := 11) (N := some 23) (v := ?_) (a' := ?_) #[true, true, true, true, true, true, false, false, false, false, true, true, false, false, false, false] rfl rfl (by kernel_rfl) (fun _ _ _ h => h) (Or.inl ⟨by rfl, ?_⟩) hHeld ?_ ?_
      rotate_left
      · rintro w' hS'
        obtain ⟨s0, s1, s2⟩ := hS'
        go_simp
        with_reducible rfl
      rotate_left
      · simp only [Act.put, List.setIfInBounds_toArray, List.set_cons_zero, List.set_cons_succ, i64_w, i32_w]
        rfl
      refine pure_ (i := 12) (N := some 24) (v := ?_) (a' := ?_) #[true, true, true, true, true, true, false, false, false, false, true, true, true, false, false, false] rfl rfl (by kernel_rfl) (fun _ _ _ h => h) (Or.inl ⟨by rfl, ?_⟩) ?_ ?_
      rotate_left
      · intro w'
        go_simp
        with_reducible rfl
      rotate_left
      · simp only [Act.put, List.setIfInBounds_toArray, List.set_cons_zero, List.set_cons_succ, i64_w, i32_w]
        rfl
      refine two_ (i := 6) (j := 14) (Ni := some 18) (Nj := some 5) #[true, true, true, true, true, true, true, false, false, false, true, true, true, false, false, false] #[true, true, true, true, true, true, false, false, false, false, true, true, true, false, true, false] rfl rfl rfl rfl (by kernel_rfl) (by decide) (by decide) (fun K hK => ?_) (fun K hK => ?_)
      · refine slice_step (n := 2) (by rfl) (N := 18) rfl (cs := #[.int .i64 a27, .int .i64 a28]) (t := 3) ?hr ?_
        case hr => first | (go_simp; done) | (go_simp; rfl)
        intro g214 hg w215 hbox hb
        replace HS : Aside0 (Sep (fps []) w [b1 g31 a27 a28 a29 a30, b2 g34 0 0 0 0 0 0 0 0, b3 g214 a27 a28] w215) := ⟨HS.out.box hg hbox hb⟩
        clear hg hbox hb
        refine hK.out _ _ (⟨blk_cellv (HS.out.at0) 2 rfl, blk_cellv (HS.out.at0) 0 rfl, blk_cellv (HS.out.at0) 1 rfl⟩) (fun hHeld => ?_)
        clear hK K
        refine norm_ (a' := ?_) ?_ ?_
        rotate_left
        · show Act.put _ (some 18) _ = _
          simp only [Act.put, List.setIfInBounds_toArray, List.set_cons_zero, List.set_cons_succ, i64_w, i32_w]
          rfl
        refine two_ (i := 7) (j := 14) (Ni := some 19) (Nj := some 5) #[true, true, true, true, true, true, true, true, false, false, true, true, true, false, false, false] #[true, true, true, true, true, true, true, false, false, false, true, true, true, false, true, false] rfl rfl rfl rfl (by kernel_rfl) (by decide) (by decide) (fun K hK => ?_) (fun K hK => ?_)
        · refine goes_ Try.func107 (by kernel_rfl) rfl #[.slice (some ⟨g214, 0, none⟩) 2 2] (by rfl) rfl rfl (by (try simp only [List.map_toArray, List.map_cons, List.map_nil]); first | done | rfl) ?_
          refine (ratio_Mul.calls _ [a27, a28] (some ⟨g214, 0, none⟩) 2 t162 _ ⟨Rd.lit (l := []) (xs := [a27, a28]) HS.out 2 rfl (by simp)⟩ ⟨Sep.start _⟩ HA163).mono ?_
          rintro e_ w218 ⟨rfl, hS⟩
          replace HS : Aside0 (Sep (fps []) w [b1 g31 a27 a28 a29 a30, b2 g34 0 0 0 0 0 0 0 0, b3 g214 a27 a28] w218) := ⟨HS.out.call hS⟩
          clear hS
          refine ⟨_, rfl, ?_⟩
          refine hK.out _ _ (⟨blk_cellv (HS.out.at0) 2 rfl, blk_cellv (HS.out.at0) 0 rfl, blk_cellv (HS.out.at0) 1 rfl⟩) (fun hHeld => ?_)
          clear hK K
          refine norm_ (a' := ?_) ?_ ?_
          rotate_left
          · show Act.put _ (some 19) _ = _
            simp only [Act.put, List.setIfInBounds_toArray, List.set_cons_zero, List.set_cons_succ, i64_w, i32_w]
            rfl
          refine two_ (i := 8) (j := 14) (Ni := some 20) (Nj := some 5) #[true, true, true, true, true, true, true, true, true, false, true, true, true, false, false, false] #[true, true, true, true, true, true, true, true, false, false, true, true, true, false, true, false] rfl rfl rfl rfl (by kernel_rfl) (by decide) (by decide) (fun K hK => ?_) (fun K hK => ?_)
          · refine slice_step (n := 3) (by rfl) (N := 20) rfl (cs := #[.int .i64 24, .int .i64 a29, .int .i64 t162]) (t := 3) ?hr ?_
            case hr => first | (go_simp; done) | (go_simp; rfl)
            intro g219 hg w220 hbox hb
            replace HS : Aside0 (Sep (fps []) w [b1 g31 a27 a28 a29 a30, b2 g34 0 0 0 0 0 0 0 0, b3 g214 a27 a28, b4 g219 24 a29 t162] w220) := ⟨HS.out.box hg hbox hb⟩
            clear hg hbox hb
            refine hK.out _ _ (⟨blk_cellv (HS.out.at0) 2 rfl, blk_cellv (HS.out.at0) 0 rfl, blk_cellv (HS.out.at0) 1 rfl⟩) (fun hHeld => ?_)
            clear hK K
            refine norm_ (a' := ?_) ?_ ?_
            rotate_left
            · show Act.put _ (some 20) _ = _
              simp only [Act.put, List.setIfInBounds_toArray, List.set_cons_zero, List.set_cons_succ, i64_w, i32_w]
              rfl
            refine two_ (i := 9) (j := 14) (Ni := some 21) (Nj := some 5) #[true, true, true, true, true, true, true, true, true, true, true, true, true, false, false, false] #[true, true, true, true, true, true, true, true, true, false, true, true, true, false, true, false] rfl rfl rfl rfl (by kernel_rfl) (by decide) (by decide) (fun K hK => ?_) (fun K hK => ?_)
            · refine goes_ Try.func106 (by kernel_rfl) rfl #[.slice (some ⟨g219, 0, none⟩) 3 3] (by rfl) rfl rfl (by (try simp only [List.map_toArray, List.map_cons, List.map_nil]); first | done | rfl) ?_
              refine (ratio_Add.calls _ [24, a29, t162] (some ⟨g219, 0, none⟩) 3 t188 _ ⟨Rd.lit (l := []) (xs := [24, a29, t162]) HS.out 3 rfl (by simp)⟩ ⟨Sep.start _⟩ HA189).mono ?_
              rintro e_ w223 ⟨rfl, hS⟩
              replace HS : Aside0 (Sep (fps []) w [b1 g31 a27 a28 a29 a30, b2 g34 0 0 0 0 0 0 0 0, b3 g214 a27 a28, b4 g219 24 a29 t162] w223) := ⟨HS.out.call hS⟩
              clear hS
              refine ⟨_, rfl, ?_⟩
              refine hK.out _ _ (⟨blk_cellv (HS.out.at0) 2 rfl, blk_cellv (HS.out.at0) 0 rfl, blk_cellv (HS.out.at0) 1 rfl⟩) (fun hHeld => ?_)
              clear hK K
              refine norm_ (a' := ?_) ?_ ?_
              rotate_left
              · show Act.put _ (some 21) _ = _
                simp only [Act.put, List.setIfInBounds_toArray, List.set_cons_zero, List.set_cons_succ, i64_w, i32_w]
                rfl
              refine pure_ (i := 13) (N := some 25) (v := ?_) (a' := ?_) #[true, true, true, true, true, true, true, true, true, true, true, true, true, true, false, false] rfl rfl (by kernel_rfl) (fun _ _ _ h => h) (Or.inl ⟨by rfl, ?_⟩) ?_ ?_
              rotate_left
              · intro w'
                go_simp
                with_reducible rfl
              rotate_left
              · simp only [Act.put, List.setIfInBounds_toArray, List.set_cons_zero, List.set_cons_succ, i64_w, i32_w]
                rfl
              refine one_ (i := 14) (N := some 5) #[true, true, true, true, true, true, true, true, true, true, true, true, true, true, true, false] rfl rfl (by kernel_rfl) (by decide) (fun K hK => ?_)
              refine box_step (by rfl) (N := 5) rfl (cs := #[.int .i64 0, .int .i64 0, .int .i64 0, .int .i64 0, .int .i64 0, .int .i64 0, .int .i64 0, .int .i64 0]) (t := 120) ?hr ?_
              case hr => first | (go_simp; done) | (go_simp; rfl)
              intro g224 hg w225 hbox hb
              replace HS : Aside0 (Sep (fps []) w [b1 g31 a27 a28 a29 a30, b2 g34 0 0 0 0 0 0 0 0, b3 g214 a27 a28, b4 g219 24 a29 t162, b2 g224 0 0 0 0 0 0 0 0] w225) := ⟨HS.out.box hg hbox hb⟩
              clear hg hbox hb
              refine hK.out _ _ (⟨blk_cellv (HS.out.at0) 2 rfl, blk_cellv (HS.out.at0) 0 rfl, blk_cellv (HS.out.at0) 1 rfl⟩) (fun hHeld => ?_)
              clear hK K
              refine norm_ (a' := ?_) ?_ ?_
              rotate_left
              · show Act.put _ (some 5) _ = _
                simp only [Act.put, List.setIfInBounds_toArray, List.set_cons_zero, List.set_cons_succ, i64_w, i32_w]
                rfl
              refine one_ (i := 15) (N := none) #[true, true, true, true, true, true, true, true, true, true, true, true, true, true, true, true] rfl rfl (by kernel_rfl) (by decide) (fun K hK => ?_)
              have hc228 := blk_cellv (v := .int .i64 0) (HS.out.at4) 0 rfl
              have hz229 := blk_fz (HS.out.at4) 0
              have hc230 := blk_cellv (v := .int .i64 0) (HS.out.at4) 1 rfl
              have hz231 := blk_fz (HS.out.at4) 1
              have hc232 := blk_cellv (v := .int .i64 0) (HS.out.at4) 2 rfl
              have hz233 := blk_fz (HS.out.at4) 2
              have hc234 := blk_cellv (v := .int .i64 0) (HS.out.at4) 3 rfl
              have hz235 := blk_fz (HS.out.at4) 3
              have hc236 := blk_cellv (v := .int .i64 0) (HS.out.at4) 4 rfl
              have hz237 := blk_fz (HS.out.at4) 4
              have hc238 := blk_cellv (v := .int .i64 0) (HS.out.at4) 5 rfl
              have hz239 := blk_fz (HS.out.at4) 5
              have hc240 := blk_cellv (v := .int .i64 0) (HS.out.at4) 6 rfl
              have hz241 := blk_fz (HS.out.at4) 6
              have hc242 := blk_cellv (v := .int .i64 0) (HS.out.at4) 7 rfl
              have hz243 := blk_fz (HS.out.at4) 7
              refine store_step (w1 := (World.setCell (World.setCell (World.setCell (World.setCell (World.setCell (World.setCell (World.setCell (World.setCell w225 ⟨g224, 0, none⟩ (.int .i64 t188)) ⟨g224, 1, none⟩ (.int .i64 (wrap64 (a28 - 8)))) ⟨g224, 2, none⟩ (.int .i64 0)) ⟨g224, 3, none⟩ (.int .i64 0)) ⟨g224, 4, none⟩ (.int .i64 0)) ⟨g224, 5, none⟩ (.int .i64 0)) ⟨g224, 6, none⟩ (.int .i64 0)) ⟨g224, 7, none⟩ (.int .i64 0))) (by rfl) rfl ?hr ?_
              case hr => first | (go_simp; done) | (go_simp; rfl)
              clear hc228 hz229 hc230 hz231 hc232 hz233 hc234 hz235 hc236 hz237 hc238 hz239 hc240 hz241 hc242 hz243
              intro w227 hst
              replace HS : Aside0 (Sep (fps []) w [b1 g31 a27 a28 a29 a30, b2 g34 0 0 0 0 0 0 0 0, b3 g214 a27 a28, b4 g219 24 a29 t162, b2 g224 t188 (wrap64 (a28 - 8)) 0 0 0 0 0 0] w227) := ⟨by rw [hst]; exact HS.out.setAll (l1 := [b1 g31 a27 a28 a29 a30, b2 g34 0 0 0 0 0 0 0 0, b3 g214 a27 a28, b4 g219 24 a29 t162]) (l2 := []) [.int .i64 t188, .int .i64 (wrap64 (a28 - 8)), .int .i64 0, .int .i64 0, .int .i64 0, .int .i64 0, .int .i64 0, .int .i64 0] rfl⟩
              clear hst
              refine hK.out _ _ (⟨blk_cellv (HS.out.at0) 2 rfl, blk_cellv (HS.out.at0) 0 rfl, blk_cellv (HS.out.at0) 1 rfl⟩) (fun hHeld => ?_)
              clear hK K
              refine done_ (by kernel_rfl) ?_
              go_wp2_with fail
              go_meet
              case rel => exact ⟨g214, g219, g224, (by first | rfl | (simp [IntKind.wrap_u32]; done)), ⟨(((((HS.out).front 4 (by simp)).front 4 (by simp)).front 4 (by simp)).front 4 (by simp)).front 4 (by simp)⟩⟩
            · refine box_step (by rfl) (N := 5) rfl (cs := #[.int .i64 0, .int .i64 0, .int .i64 0, .int .i64 0, .int .i64 0, .int .i64 0, .int .i64 0, .int .i64 0]) (t := 120) ?hr ?_
              case hr => first | (go_simp; done) | (go_simp; rfl)
              intro g244 hg w245 hbox hb
              replace HS : Aside0 (Sep (fps []) w [b1 g31 a27 a28 a29 a30, b2 g34 0 0 0 0 0 0 0 0, b3 g214 a27 a28, b4 g219 24 a29 t162, b2 g244 0 0 0 0 0 0 0 0] w245) := ⟨HS.out.box hg hbox hb⟩
              clear hg hbox hb
              refine hK.out _ _ (⟨blk_cellv (HS.out.at0) 2 rfl, blk_cellv (HS.out.at0) 0 rfl, blk_cellv (HS.out.at0) 1 rfl⟩) (fun hHeld => ?_)
              clear hK K
              refine norm_ (a' := ?_) ?_ ?_
              rotate_left
              · show Act.put _ (some 5) _ = _
                simp only [Act.put, List.setIfInBounds_toArray, List.set_cons_zero, List.set_cons_succ, i64_w, i32_w]
                rfl
              refine one_ (i := 9) (N := some 21) #[true, true, true, true, true, true, true, true, true, true, true, true, true, false, true, false] rfl rfl (by kernel_rfl) (by decide) (fun K hK => ?_)
              refine goes_ Try.func106 (by kernel_rfl) rfl #[.slice (some ⟨g219, 0, none⟩) 3 3] (by rfl) rfl rfl (by (try simp only [List.map_toArray, List.map_cons, List.map_nil]); first | done | rfl) ?_
              refine (ratio_Add.calls _ [24, a29, t162] (some ⟨g219, 0, none⟩) 3 t188 _ ⟨Rd.lit (l := []) (xs := [24, a29, t162]) HS.out 3 rfl (by simp)⟩ ⟨Sep.start _⟩ HA189).mono ?_
              rintro e_ w248 ⟨rfl, hS⟩
              replace HS : Aside0 (Sep (fps []) w [b1 g31 a27 a28 a29 a30, b2 g34 0 0 0 0 0 0 0 0, b3 g214 a27 a28, b4 g219 24 a29 t162, b2 g244 0 0 0 0 0 0 0 0] w248) := ⟨HS.out.call hS⟩
              clear hS
              refine ⟨_, rfl, ?_⟩
              refine hK.out _ _ (⟨blk_cellv (HS.out.at0) 2 rfl, blk_cellv (HS.out.at0) 0 rfl, blk_cellv (HS.out.at0) 1 rfl⟩) (fun hHeld => ?_)
              clear hK K
              refine norm_ (a' := ?_) ?_ ?_
              rotate_left
              · show Act.put _ (some 21) _ = _
                simp only [Act.put, List.setIfInBounds_toArray, List.set_cons_zero, List.set_cons_succ, i64_w, i32_w]
                rfl
              refine pure_ (i := 13) (N := some 25) (v := ?_) (a' := ?_) #[true, true, true, true, true, true, true, true, true, true, true, true, true, true, true, false] rfl rfl (by kernel_rfl) (fun _ _ _ h => h) (Or.inl ⟨by rfl, ?_⟩) ?_ ?_
              rotate_left
              · intro w'
                go_simp
                with_reducible rfl
              rotate_left
              · simp only [Act.put, List.setIfInBounds_toArray, List.set_cons_zero, List.set_cons_succ, i64_w, i32_w]
                rfl
              refine one_ (i := 15) (N := none) #[true, true, true, true, true, true, true, true, true, true, true, true, true, true, true, true] rfl rfl (by kernel_rfl) (by decide) (fun K hK => ?_)
              have hc250 := blk_cellv (v := .int .i64 0) (HS.out.at4) 0 rfl
              have hz251 := blk_fz (HS.out.at4) 0
              have hc252 := blk_cellv (v := .int .i64 0) (HS.out.at4) 1 rfl
              have hz253 := blk_fz (HS.out.at4) 1
              have hc254 := blk_cellv (v := .int .i64 0) (HS.out.at4) 2 rfl
              have hz255 := blk_fz (HS.out.at4) 2
              have hc256 := blk_cellv (v := .int .i64 0) (HS.out.at4) 3 rfl
              have hz257 := blk_fz (HS.out.at4) 3
              have hc258 := blk_cellv (v := .int .i64 0) (HS.out.at4) 4 rfl
              have hz259 := blk_fz (HS.out.at4) 4
              have hc260 := blk_cellv (v := .int .i64 0) (HS.out.at4) 5 rfl
              have hz261 := blk_fz (HS.out.at4) 5
              have hc262 := blk_cellv (v := .int .i64 0) (HS.out.at4) 6 rfl
              have hz263 := blk_fz (HS.out.at4) 6
              have hc264 := blk_cellv (v := .int .i64 0) (HS.out.at4) 7 rfl
              have hz265 := blk_fz (HS.out.at4) 7
              refine store_step (w1 := (World.setCell (World.setCell (World.setCell (World.setCell (World.setCell (World.setCell (World.setCell (World.setCell w248 ⟨g244, 0, none⟩ (.int .i64 t188)) ⟨g244, 1, none⟩ (.int .i64 (wrap64 (a28 - 8)))) ⟨g244, 2, none⟩ (.int .i64 0)) ⟨g244, 3, none⟩ (.int .i64 0)) ⟨g244, 4, none⟩ (.int .i64 0)) ⟨g244, 5, none⟩ (.int .i64 0)) ⟨g244, 6, none⟩ (.int .i64 0)) ⟨g244, 7, none⟩ (.int .i64 0))) (by rfl) rfl ?hr ?_
              case hr => first | (go_simp; done) | (go_simp; rfl)
              clear hc250 hz251 hc252 hz253 hc254 hz255 hc256 hz257 hc258 hz259 hc260 hz261 hc262 hz263 hc264 hz265
              intro w249 hst
              replace HS : Aside0 (Sep (fps []) w [b1 g31 a27 a28 a29 a30, b2 g34 0 0 0 0 0 0 0 0, b3 g214 a27 a28, b4 g219 24 a29 t162, b2 g244 t188 (wrap64 (a28 - 8)) 0 0 0 0 0 0] w249) := ⟨by rw [hst]; exact HS.out.setAll (l1 := [b1 g31 a27 a28 a29 a30, b2 g34 0 0 0 0 0 0 0 0, b3 g214 a27 a28, b4 g219 24 a29 t162]) (l2 := []) [.int .i64 t188, .int .i64 (wrap64 (a28 - 8)), .int .i64 0, .int .i64 0, .int .i64 0, .int .i64 0, .int .i64 0, .int .i64 0] rfl⟩
              clear hst
              refine hK.out _ _ (⟨blk_cellv (HS.out.at0) 2 rfl, blk_cellv (HS.out.at0) 0 rfl, blk_cellv (HS.out.at0) 1 rfl⟩) (fun hHeld => ?_)
              clear hK K
              refine done_ (by kernel_rfl) ?_
              go_wp2_with fail
              go_meet
              case rel => exact ⟨g214, g219, g244, (by first | rfl | (simp [IntKind.wrap_u32]; done)), ⟨(((((HS.out).front 4 (by simp)).front 4 (by simp)).front 4 (by simp)).front 4 (by simp)).front 4 (by simp)⟩⟩
          · refine box_step (by rfl) (N := 5) rfl (cs := #[.int .i64 0, .int .i64 0, .int .i64 0, .int .i64 0, .int .i64 0, .int .i64 0, .int .i64 0, .int .i64 0]) (t := 120) ?hr ?_
            case hr => first | (go_simp; done) | (go_simp; rfl)
            intro g266 hg w267 hbox hb
            replace HS : Aside0 (Sep (fps []) w [b1 g31 a27 a28 a29 a30, b2 g34 0 0 0 0 0 0 0 0, b3 g214 a27 a28, b2 g266 0 0 0 0 0 0 0 0] w267) := ⟨HS.out.box hg hbox hb⟩
            clear hg hbox hb
            refine hK.out _ _ (⟨blk_cellv (HS.out.at0) 2 rfl, blk_cellv (HS.out.at0) 0 rfl, blk_cellv (HS.out.at0) 1 rfl⟩) (fun hHeld => ?_)
            clear hK K
            refine norm_ (a' := ?_) ?_ ?_
            rotate_left
            · show Act.put _ (some 5) _ = _
              simp only [Act.put, List.setIfInBounds_toArray, List.set_cons_zero, List.set_cons_succ, i64_w, i32_w]
              rfl
            refine one_ (i := 8) (N := some 20) #[true, true, true, true, true, true, true, true, true, false, true, true, true, false, true, false] rfl rfl (by kernel_rfl) (by decide) (fun K hK => ?_)
            refine slice_step (n := 3) (by rfl) (N := 20) rfl (cs := #[.int .i64 24, .int .i64 a29, .int .i64 t162]) (t := 3) ?hr ?_
            case hr => first | (go_simp; done) | (go_simp; rfl)
            intro g269 hg w270 hbox hb
            replace HS : Aside0 (Sep (fps []) w [b1 g31 a27 a28 a29 a30, b2 g34 0 0 0 0 0 0 0 0, b3 g214 a27 a28, b2 g266 0 0 0 0 0 0 0 0, b4 g269 24 a29 t162] w270) := ⟨HS.out.box hg hbox hb⟩
            clear hg hbox hb
            refine hK.out _ _ (⟨blk_cellv (HS.out.at0) 2 rfl, blk_cellv (HS.out.at0) 0 rfl, blk_cellv (HS.out.at0) 1 rfl⟩) (fun hHeld => ?_)
            clear hK K
            refine norm_ (a' := ?_) ?_ ?_
            rotate_left
            · show Act.put _ (some 20) _ = _
              simp only [Act.put, List.setIfInBounds_toArray, List.set_cons_zero, List.set_cons_succ, i64_w, i32_w]
              rfl
            refine one_ (i := 9) (N := some 21) #[true, true, true, true, true, true, true, true, true, true, true, true, true, false, true, false] rfl rfl (by kernel_rfl) (by decide) (fun K hK => ?_)
            refine goes_ Try.func106 (by kernel_rfl) rfl #[.slice (some ⟨g269, 0, none⟩) 3 3] (by rfl) rfl rfl (by (try simp only [List.map_toArray, List.map_cons, List.map_nil]); first | done | rfl) ?_
            refine (ratio_Add.calls _ [24, a29, t162] (some ⟨g269, 0, none⟩) 3 t188 _ ⟨Rd.lit (l := []) (xs := [24, a29, t162]) HS.out 4 rfl (by simp)⟩ ⟨Sep.start _⟩ HA189).mono ?_
            rintro e_ w273 ⟨rfl, hS⟩
            replace HS : Aside0 (Sep (fps []) w [b1 g31 a27 a28 a29 a30, b2 g34 0 0 0 0 0 0 0 0, b3 g214 a27 a28, b2 g266 0 0 0 0 0 0 0 0, b4 g269 24 a29 t162] w273) := ⟨HS.out.call hS⟩
            clear hS
            refine ⟨_, rfl, ?_⟩
            refine hK.out _ _ (⟨blk_cellv (HS.out.at0) 2 rfl, blk_cellv (HS.out.at0) 0 rfl, blk_cellv (HS.out.at0) 1 rfl⟩) (fun hHeld => ?_)
            clear hK K
            refine norm_ (a' := ?_) ?_ ?_
            rotate_left
            · show Act.put _ (some 21) _ = _
              simp only [Act.put, List.setIfInBounds_toArray, List.set_cons_zero, List.set_cons_succ, i64_w, i32_w]
              rfl
            refine pure_ (i := 13) (N := some 25) (v := ?_) (a' := ?_) #[true, true, true, true, true, true, true, true, true, true, true, true, true, true, true, false] rfl rfl (by kernel_rfl) (fun _ _ _ h => h) (Or.inl ⟨by rfl, ?_⟩) ?_ ?_
            rotate_left
            · intro w'
              go_simp
              with_reducible rfl
            rotate_left
            · simp only [Act.put, List.setIfInBounds_toArray, List.set_cons_zero, List.set_cons_succ, i64_w, i32_w]
              rfl
            refine one_ (i := 15) (N := none) #[true, true, true, true, true, true, true, true, true, true, true, true, true, true, true, true] rfl rfl (by kernel_rfl) (by decide) (fun K hK => ?_)
            have hc275 := blk_cellv (v := .int .i64 0) (HS.out.at3) 0 rfl
            have hz276 := blk_fz (HS.out.at3) 0
            have hc277 := blk_cellv (v := .int .i64 0) (HS.out.at3) 1 rfl
            have hz278 := blk_fz (HS.out.at3) 1
            have hc279 := blk_cellv (v := .int .i64 0) (HS.out.at3) 2 rfl
            have hz280 := blk_fz (HS.out.at3) 2
            have hc281 := blk_cellv (v := .int .i64 0) (HS.out.at3) 3 rfl
            have hz282 := blk_fz (HS.out.at3) 3
            have hc283 := blk_cellv (v := .int .i64 0) (HS.out.at3) 4 rfl
            have hz284 := blk_fz (HS.out.at3) 4
            have hc285 := blk_cellv (v := .int .i64 0) (HS.out.at3) 5 rfl
            have hz286 := blk_fz (HS.out.at3) 5
            have hc287 := blk_cellv (v := .int .i64 0) (HS.out.at3) 6 rfl
            have hz288 := blk_fz (HS.out.at3) 6
            have hc289 := blk_cellv (v := .int .i64 0) (HS.out.at3) 7 rfl
            have hz290 := blk_fz (HS.out.at3) 7
            refine store_step (w1 := (World.setCell (World.setCell (World.setCell (World.setCell (World.setCell (World.setCell (World.setCell (World.setCell w273 ⟨g266, 0, none⟩ (.int .i64 t188)) ⟨g266, 1, none⟩ (.int .i64 (wrap64 (a28 - 8)))) ⟨g266, 2, none⟩ (.int .i64 0)) ⟨g266, 3, none⟩ (.int .i64 0)) ⟨g266, 4, none⟩ (.int .i64 0)) ⟨g266, 5, none⟩ (.int .i64 0)) ⟨g266, 6, none⟩ (.int .i64 0)) ⟨g266, 7, none⟩ (.int .i64 0))) (by rfl) rfl ?hr ?_
            case hr => first | (go_simp; done) | (go_simp; rfl)
            clear hc275 hz276 hc277 hz278 hc279 hz280 hc281 hz282 hc283 hz284 hc285 hz286 hc287 hz288 hc289 hz290
            intro w274 hst
            replace HS : Aside0 (Sep (fps []) w [b1 g31 a27 a28 a29 a30, b2 g34 0 0 0 0 0 0 0 0, b3 g214 a27 a28, b2 g266 t188 (wrap64 (a28 - 8)) 0 0 0 0 0 0, b4 g269 24 a29 t162] w274) := ⟨by rw [hst]; exact HS.out.setAll (l1 := [b1 g31 a27 a28 a29 a30, b2 g34 0 0 0 0 0 0 0 0, b3 g214 a27 a28]) (l2 := [b4 g269 24 a29 t162]) [.int .i64 t188, .int .i64 (wrap64 (a28 - 8)), .int .i64 0, .int .i64 0, .int .i64 0, .int .i64 0, .int .i64 0, .int .i64 0] rfl⟩
            clear hst
            refine hK.out _ _ (⟨blk_cellv (HS.out.at0) 2 rfl, blk_cellv (HS.out.at0) 0 rfl, blk_cellv (HS.out.at0) 1 rfl⟩) (fun hHeld => ?_)
            clear hK K
            refine done_ (by kernel_rfl) ?_
            go_wp2_with fail
            go_meet
            case rel => exact ⟨g214, g269, g266, (by first | rfl | (simp [IntKind.wrap_u32]; done)), ⟨(((((HS.out).front 3 (by simp)).front 4 (by simp)).front 4 (by simp)).front 4 (by simp)).front 4 (by simp)⟩⟩
        · refine box_step (by rfl) (N := 5) rfl (cs := #[.int .i64 0, .int .i64 0, .int .i64 0, .int .i64 0, .int .i64 0, .int .i64 0, .int .i64 0, .int .i64 0]) (t := 120) ?hr ?_
          case hr => first | (go_simp; done) | (go_simp; rfl)
          intro g291 hg w292 hbox hb
          replace HS : Aside0 (Sep (fps []) w [b1 g31 a27 a28 a29 a30, b2 g34 0 0 0 0 0 0 0 0, b3 g214 a27 a28, b2 g291 0 0 0 0 0 0 0 0] w292) := ⟨HS.out.box hg hbox hb⟩
          clear hg hbox hb
          refine hK.out _ _ (⟨blk_cellv (HS.out.at0) 2 rfl, blk_cellv (HS.out.at0) 0 rfl, blk_cellv (HS.out.at0) 1 rfl⟩) (fun hHeld => ?_)
          clear hK K
          refine norm_ (a' := ?_) ?_ ?_
          rotate_left
          · show Act.put _ (some 5) _ = _
            simp only [Act.put, List.setIfInBounds_toArray, List.set_cons_zero, List.set_cons_succ, i64_w, i32_w]
            rfl
          refine one_ (i := 7) (N := some 19) #[true, true, true, true, true, true, true, true, false, false, true, true, true, false, true, false] rfl rfl (by kernel_rfl) (by decide) (fun K hK => ?_)
          refine goes_ Try.func107 (by kernel_rfl) rfl #[.slice (some ⟨g214, 0, none⟩) 2 2] (by rfl) rfl rfl (by (try simp only [List.map_toArray, List.map_cons, List.map_nil]); first | done | rfl) ?_
          refine (ratio_Mul.calls _ [a27, a28] (some ⟨g214, 0, none⟩) 2 t162 _ ⟨Rd.lit (l := []) (xs := [a27, a28]) HS.out 2 rfl (by simp)⟩ ⟨Sep.start _⟩ HA163).mono ?_
          rintro e_ w295 ⟨rfl, hS⟩
          replace HS : Aside0 (Sep (fps []) w [b1 g31 a27 a28 a29 a30, b2 g34 0 0 0 0 0 0 0 0, b3 g214 a27 a28, b2 g291 0 0 0 0 0 0 0 0] w295) := ⟨HS.out.call hS⟩
          clear hS
          refine ⟨_, rfl, ?_⟩
          refine hK.out _ _ (⟨blk_cellv (HS.out.at0) 2 rfl, blk_cellv (HS.out.at0) 0 rfl, blk_cellv (HS.out.at0) 1 rfl⟩) (fun hHeld => ?_)
          clear hK K
          refine norm_ (a' := ?_) ?_ ?_
          rotate_left
          · show Act.put _ (some 19) _ = _
            simp only [Act.put, List.setIfInBounds_toArray, List.set_cons_zero, List.set_cons_succ, i64_w, i32_w]
            rfl
          refine one_ (i := 8) (N := some 20) #[true, true, true, true, true, true, true, true, true, false, true, true, true, false, true, false] rfl rfl (by kernel_rfl) (by decide) (fun K hK => ?_)
          refine slice_step (n := 3) (by rfl) (N := 20) rfl (cs := #[.int .i64 24, .int .i64 a29, .int .i64 t162]) (t := 3) ?hr ?_
          case hr => first | (go_simp; done) | (go_simp; rfl)
          intro g296 hg w297 hbox hb
          replace HS : Aside0 (Sep (fps []) w [b1 g31 a27 a28 a29 a30, b2 g34 0 0 0 0 0 0 0 0, b3 g214 a27 a28, b2 g291 0 0 0 0 0 0 0 0, b4 g296 24 a29 t162] w297) := ⟨HS.out.box hg hbox hb⟩
          clear hg hbox hb
          refine hK.out _ _ (⟨blk_cellv (HS.out.at0) 2 rfl, blk_cellv (HS.out.at0) 0 rfl, blk_cellv (HS.out.at0) 1 rfl⟩) (fun hHeld => ?_)
          clear hK K
          refine norm_ (a' := ?_) ?_ ?_
          rotate_left
          · show Act.put _ (some 20) _ = _
            simp only [Act.put, List.setIfInBounds_toArray, List.set_cons_zero, List.set_cons_succ, i64_w, i32_w]
            rfl
          refine one_ (i := 9) (N := some 21) #[true, true, true, true, true, true, true, true, true, true, true, true, true, false, true, false] rfl rfl (by kernel_rfl) (by decide) (fun K hK => ?_)
          refine goes_ Try.func106 (by kernel_rfl) rfl #[.slice (some ⟨g296, 0, none⟩) 3 3] (by rfl) rfl rfl (by (try simp only [List.map_toArray, List.map_cons, List.map_nil]); first | done | rfl) ?_
          refine (ratio_Add.calls _ [24, a29, t162] (some ⟨g296, 0, none⟩) 3 t188 _ ⟨Rd.lit (l := []) (xs := [24, a29, t162]) HS.out 4 rfl (by simp)⟩ ⟨Sep.start _⟩ HA189).mono ?_
          rintro e_ w300 ⟨rfl, hS⟩
          replace HS : Aside0 (Sep (fps []) w [b1 g31 a27 a28 a29 a30, b2 g34 0 0 0 0 0 0 0 0, b3 g214 a27 a28, b2 g291 0 0 0 0 0 0 0 0, b4 g296 24 a29 t162] w300) := ⟨HS.out.call hS⟩
          clear hS
          refine ⟨_, rfl, ?_⟩
          refine hK.out _ _ (⟨blk_cellv (HS.out.at0) 2 rfl, blk_cellv (HS.out.at0) 0 rfl, blk_cellv (HS.out.at0) 1 rfl⟩) (fun hHeld => ?_)
          clear hK K
          refine norm_ (a' := ?_) ?_ ?_
          rotate_left
          · show Act.put _ (some 21) _ = _
            simp only [Act.put, List.setIfInBounds_toArray, List.set_cons_zero, List.set_cons_succ, i64_w, i32_w]
            rfl
          refine pure_ (i := 13) (N := some 25) (v := ?_) (a' := ?_) #[true, true, true, true, true, true, true, true, true, true, true, true, true, true, true, false] rfl rfl (by kernel_rfl) (fun _ _ _ h => h) (Or.inl ⟨by rfl, ?_⟩) ?_ ?_
          rotate_left
          · intro w'
            go_simp
            with_reducible rfl
          rotate_left
          · simp only [Act.put, List.setIfInBounds_toArray, List.set_cons_zero, List.set_cons_succ, i64_w, i32_w]
            rfl
          refine one_ (i := 15) (N := none) #[true, true, true, true, true, true, true, true, true, true, true, true, true, true, true, true] rfl rfl (by kernel_rfl) (by decide) (fun K hK => ?_)
          have hc302 := blk_cellv (v := .int .i64 0) (HS.out.at3) 0 rfl
          have hz303 := blk_fz (HS.out.at3) 0
          have hc304 := blk_cellv (v := .int .i64 0) (HS.out.at3) 1 rfl
          have hz305 := blk_fz (HS.out.at3) 1
          have hc306 := blk_cellv (v := .int .i64 0) (HS.out.at3) 2 rfl
          have hz307 := blk_fz (HS.out.at3) 2
          have hc308 := blk_cellv (v := .int .i64 0) (HS.out.at3) 3 rfl
          have hz309 := blk_fz (HS.out.at3) 3
          have hc310 := blk_cellv (v := .int .i64 0) (HS.out.at3) 4 rfl
          have hz311 := blk_fz (HS.out.at3) 4
          have hc312 := blk_cellv (v := .int .i64 0) (HS.out.at3) 5 rfl
          have hz313 := blk_fz (HS.out.at3) 5
          have hc314 := blk_cellv (v := .int .i64 0) (HS.out.at3) 6 rfl
          have hz315 := blk_fz (HS.out.at3) 6
          have hc316 := blk_cellv (v := .int .i64 0) (HS.out.at3) 7 rfl
          have hz317 := blk_fz (HS.out.at3) 7
          refine store_step (w1 := (World.setCell (World.setCell (World.setCell (World.setCell (World.setCell (World.setCell (World.setCell (World.setCell w300 ⟨g291, 0, none⟩ (.int .i64 t188)) ⟨g291, 1, none⟩ (.int .i64 (wrap64 (a28 - 8)))) ⟨g291, 2, none⟩ (.int .i64 0)) ⟨g291, 3, none⟩ (.int .i64 0)) ⟨g291, 4, none⟩ (.int .i64 0)) ⟨g291, 5, none⟩ (.int .i64 0)) ⟨g291, 6, none⟩ (.int .i64 0)) ⟨g291, 7, none⟩ (.int .i64 0))) (by rfl) rfl ?hr ?_
          case hr => first | (go_simp; done) | (go_simp; rfl)
          clear hc302 hz303 hc304 hz305 hc306 hz307 hc308 hz309 hc310 hz311 hc312 hz313 hc314 hz315 hc316 hz317
          intro w301 hst
          replace HS : Aside0 (Sep (fps []) w [b1 g31 a27 a28 a29 a30, b2 g34 0 0 0 0 0 0 0 0, b3 g214 a27 a28, b2 g291 t188 (wrap64 (a28 - 8)) 0 0 0 0 0 0, b4 g296 24 a29 t162] w301) := ⟨by rw [hst]; exact HS.out.setAll (l1 := [b1 g31 a27 a28 a29 a30, b2 g34 0 0 0 0 0 0 0 0, b3 g214 a27 a28]) (l2 := [b4 g296 24 a29 t162]) [.int .i64 t188, .int .i64 (wrap64 (a28 - 8)), .int .i64 0, .int .i64 0, .int .i64 0, .int .i64 0, .int .i64 0, .int .i64 0] rfl⟩
          clear hst
          refine hK.out _ _ (⟨blk_cellv (HS.out.at0) 2 rfl, blk_cellv (HS.out.at0) 0 rfl, blk_cellv (HS.out.at0) 1 rfl⟩) (fun hHeld => ?_)
          clear hK K
          refine done_ (by kernel_rfl) ?_
          go_wp2_with fail
          go_meet
          case rel => exact ⟨g214, g296, g291, (by first | rfl | (simp [IntKind.wrap_u32]; done)), ⟨(((((HS.out).front 3 (by simp)).front 4 (by simp)).front 4 (by simp)).front 4 (by simp)).front 4 (by simp)⟩⟩
      · refine box_step (by rfl) (N := 5) rfl (cs := #[.int .i64 0, .int .i64 0, .int .i64 0, .int .i64 0, .int .i64 0, .int .i64 0, .int .i64 0, .int .i64 0]) (t := 120) ?hr ?_
        case hr => first | (go_simp; done) | (go_simp; rfl)
        intro g318 hg w319 hbox hb
        replace HS : Aside0 (Sep (fps []) w [b1 g31 a27 a28 a29 a30, b2 g34 0 0 0 0 0 0 0 0, b2 g318 0 0 0 0 0 0 0 0] w319) := ⟨HS.out.box hg hbox hb⟩
        clear hg hbox hb
        refine hK.out _ _ (⟨blk_cellv (HS.out.at0) 2 rfl, blk_cellv (HS.out.at0) 0 rfl, blk_cellv (HS.out.at0) 1 rfl⟩) (fun hHeld => ?_)
        clear hK K
        refine norm_ (a' := ?_) ?_ ?_
        rotate_left
        · show Act.put _ (some 5) _ = _
          simp only [Act.put, List.setIfInBounds_toArray, List.set_cons_zero, List.set_cons_succ, i64_w, i32_w]
          rfl
        refine one_ (i := 6) (N := some 18) #[true, true, true, true, true, true, true, false, false, false, true, true, true, false, true, false] rfl rfl (by kernel_rfl) (by decide) (fun K hK => ?_)
        refine slice_step (n := 2) (by rfl) (N := 18) rfl (cs := #[.int .i64 a27, .int .i64 a28]) (t := 3) ?hr ?_
        case hr => first | (go_simp; done) | (go_simp; rfl)
        intro g321 hg w322 hbox hb
        replace HS : Aside0 (Sep (fps []) w [b1 g31 a27 a28 a29 a30, b2 g34 0 0 0 0 0 0 0 0, b2 g318 0 0 0 0 0 0 0 0, b3 g321 a27 a28] w322) := ⟨HS.out.box hg hbox hb⟩
        clear hg hbox hb
        refine hK.out _ _ (⟨blk_cellv (HS.out.at0) 2 rfl, blk_cellv (HS.out.at0) 0 rfl, blk_cellv (HS.out.at0) 1 rfl⟩) (fun hHeld => ?_)
        clear hK K
        refine norm_ (a' := ?_) ?_ ?_
        rotate_left
        · show Act.put _ (some 18) _ = _
          simp only [Act.put, List.setIfInBounds_toArray, List.set_cons_zero, List.set_cons_succ, i64_w, i32_w]
          rfl
        refine one_ (i := 7) (N := some 19) #[true, true, true, true, true, true, true, true, false, false, true, true, true, false, true, false] rfl rfl (by kernel_rfl) (by decide) (fun K hK => ?_)
        refine goes_ Try.func107 (by kernel_rfl) rfl #[.slice (some ⟨g321, 0, none⟩) 2 2] (by rfl) rfl rfl (by (try simp only [List.map_toArray, List.map_cons, List.map_nil]); first | done | rfl) ?_
        refine (ratio_Mul.calls _ [a27, a28] (some ⟨g321, 0, none⟩) 2 t162 _ ⟨Rd.lit (l := []) (xs := [a27, a28]) HS.out 3 rfl (by simp)⟩ ⟨Sep.start _⟩ HA163).mono ?_
        rintro e_ w325 ⟨rfl, hS⟩
        replace HS : Aside0 (Sep (fps []) w [b1 g31 a27 a28 a29 a30, b2 g34 0 0 0 0 0 0 0 0, b2 g318 0 0 0 0 0 0 0 0, b3 g321 a27 a28] w325) := ⟨HS.out.call hS⟩
        clear hS
        refine ⟨_, rfl, ?_⟩
        refine hK.out _ _ (⟨blk_cellv (HS.out.at0) 2 rfl, blk_cellv (HS.out.at0) 0 rfl, blk_cellv (HS.out.at0) 1 rfl⟩) (fun hHeld => ?_)
        clear hK K
        refine norm_ (a' := ?_) ?_ ?_
        rotate_left
        · show Act.put _ (some 19) _ = _
          simp only [Act.put, List.setIfInBounds_toArray, List.set_cons_zero, List.set_cons_succ, i64_w, i32_w]
          rfl
        refine one_ (i := 8) (N := some 20) #[true, true, true, true, true, true, true, true, true, false, true, true, true, false, true, false] rfl rfl (by kernel_rfl) (by decide) (fun K hK => ?_)
        refine slice_step (n := 3) (by rfl) (N := 20) rfl (cs := #[.int .i64 24, .int .i64 a29, .int .i64 t162]) (t := 3) ?hr ?_
        case hr => first | (go_simp; done) | (go_simp; rfl)
        intro g326 hg w327 hbox hb
        replace HS : Aside0 (Sep (fps []) w [b1 g31 a27 a28 a29 a30, b2 g34 0 0 0 0 0 0 0 0, b2 g318 0 0 0 0 0 0 0 0, b3 g321 a27 a28, b4 g326 24 a29 t162] w327) := ⟨HS.out.box hg hbox hb⟩
        clear hg hbox hb
        refine hK.out _ _ (⟨blk_cellv (HS.out.at0) 2 rfl, blk_cellv (HS.out.at0) 0 rfl, blk_cellv (HS.out.at0) 1 rfl⟩) (fun hHeld => ?_)
        clear hK K
        refine norm_ (a' := ?_) ?_ ?_
        rotate_left
        · show Act.put _ (some 20) _ = _
          simp only [Act.put, List.setIfInBounds_toArray, List.set_cons_zero, List.set_cons_succ, i64_w, i32_w]
          rfl
        refine one_ (i := 9) (N := some 21) #[true, true, true, true, true, true, true, true, true, true, true, true, true, false, true, false] rfl rfl (by kernel_rfl) (by decide) (fun K hK => ?_)
        refine goes_ Try.func106 (by kernel_rfl) rfl #[.slice (some ⟨g326, 0, none⟩) 3 3] (by rfl) rfl rfl (by (try simp only [List.map_toArray, List.map_cons, List.map_nil]); first | done | rfl) ?_
        refine (ratio_Add.calls _ [24, a29, t162] (some ⟨g326, 0, none⟩) 3 t188 _ ⟨Rd.lit (l := []) (xs := [24, a29, t162]) HS.out 4 rfl (by simp)⟩ ⟨Sep.start _⟩ HA189).mono ?_
        rintro e_ w330 ⟨rfl, hS⟩
        replace HS : Aside0 (Sep (fps []) w [b1 g31 a27 a28 a29 a30, b2 g34 0 0 0 0 0 0 0 0, b2 g318 0 0 0 0 0 0 0 0, b3 g321 a27 a28, b4 g326 24 a29 t162] w330) := ⟨HS.out.call hS⟩
        clear hS
        refine ⟨_, rfl, ?_⟩
        refine hK.out _ _ (⟨blk_cellv (HS.out.at0) 2 rfl, blk_cellv (HS.out.at0) 0 rfl, blk_cellv (HS.out.at0) 1 rfl⟩) (fun hHeld => ?_)
        clear hK K
        refine norm_ (a' := ?_) ?_ ?_
        rotate_left
        · show Act.put _ (some 21) _ = _
          simp only [Act.put, List.setIfInBounds_toArray, List.set_cons_zero, List.set_cons_succ, i64_w, i32_w]
          rfl
        refine pure_ (i := 13) (N := some 25) (v := ?_) (a' := ?_) #[true, true, true, true, true, true, true, true, true, true, true, true, true, true, true, false] rfl rfl (by kernel_rfl) (fun _ _ _ h => h) (Or.inl ⟨by rfl, ?_⟩) ?_ ?_
        rotate_left
        · intro w'
          go_simp
          with_reducible rfl
        rotate_left
        · simp only [Act.put, List.setIfInBounds_toArray, List.set_cons_zero, List.set_cons_succ, i64_w, i32_w]
          rfl
        refine one_ (i := 15) (N := none) #[true, true, true, true, true, true, true, true, true, true, true, true, true, true, true, true] rfl rfl (by kernel_rfl) (by decide) (fun K hK => ?_)
        have hc332 := blk_cellv (v := .int .i64 0) (HS.out.at2) 0 rfl
        have hz333 := blk_fz (HS.out.at2) 0
        have hc334 := blk_cellv (v := .int .i64 0) (HS.out.at2) 1 rfl
        have hz335 := blk_fz (HS.out.at2) 1
        have hc336 := blk_cellv (v := .int .i64 0) (HS.out.at2) 2 rfl
        have hz337 := blk_fz (HS.out.at2) 2
        have hc338 := blk_cellv (v := .int .i64 0) (HS.out.at2) 3 rfl
        have hz339 := blk_fz (HS.out.at2) 3
        have hc340 := blk_cellv (v := .int .i64 0) (HS.out.at2) 4 rfl
        have hz341 := blk_fz (HS.out.at2) 4
        have hc342 := blk_cellv (v := .int .i64 0) (HS.out.at2) 5 rfl
        have hz343 := blk_fz (HS.out.at2) 5
        have hc344 := blk_cellv (v := .int .i64 0) (HS.out.at2) 6 rfl
        have hz345 := blk_fz (HS.out.at2) 6
        have hc346 := blk_cellv (v := .int .i64 0) (HS.out.at2) 7 rfl
        have hz347 := blk_fz (HS.out.at2) 7
        refine store_step (w1 := (World.setCell (World.setCell (World.setCell (World.setCell (World.setCell (World.setCell (World.setCell (World.setCell w330 ⟨g318, 0, none⟩ (.int .i64 t188)) ⟨g318, 1, none⟩ (.int .i64 (wrap64 (a28 - 8)))) ⟨g318, 2, none⟩ (.int .i64 0)) ⟨g318, 3, none⟩ (.int .i64 0)) ⟨g318, 4, none⟩ (.int .i64 0)) ⟨g318, 5, none⟩ (.int .i64 0)) ⟨g318, 6, none⟩ (.int .i64 0)) ⟨g318, 7, none⟩ (.int .i64 0))) (by rfl) rfl ?hr ?_
        case hr => first | (go_simp; done) | (go_simp; rfl)
        clear hc332 hz333 hc334 hz335 hc336 hz337 hc338 hz339 hc340 hz341 hc342 hz343 hc344 hz345 hc346 hz347
        intro w331 hst
        replace HS : Aside0 (Sep (fps []) w [b1 g31 a27 a28 a29 a30, b2 g34 0 0 0 0 0 0 0 0, b2 g318 t188 (wrap64 (a28 - 8)) 0 0 0 0 0 0, b3 g321 a27 a28, b4 g326 24 a29 t162] w331) := ⟨by rw [hst]; exact HS.out.setAll (l1 := [b1 g31 a27 a28 a29 a30, b2 g34 0 0 0 0 0 0 0 0]) (l2 := [b3 g321 a27 a28, b4 g326 24 a29 t162]) [.int .i64 t188, .int .i64 (wrap64 (a28 - 8)), .int .i64 0, .int .i64 0, .int .i64 0, .int .i64 0, .int .i64 0, .int .i64 0] rfl⟩
        clear hst
        refine hK.out _ _ (⟨blk_cellv (HS.out.at0) 2 rfl, blk_cellv (HS.out.at0) 0 rfl, blk_cellv (HS.out.at0) 1 rfl⟩) (fun hHeld => ?_)
        clear hK K
        refine done_ (by kernel_rfl) ?_
        go_wp2_with fail
        go_meet
        case rel => exact ⟨g321, g326, g318, (by first | rfl | (simp [IntKind.wrap_u32]; done)), ⟨(((((HS.out).front 2 (by simp)).front 4 (by simp)).front 4 (by simp)).front 4 (by simp)).front 4 (by simp)⟩⟩
    case rest =>
      clear HS
      obtain ⟨g88, g165, g191, rfl, HS⟩ := hcut
      obtain ⟨w211, rfl⟩ : ∃ x : World, x = wc := ⟨_, rfl⟩
      replace HS : Aside0 (Sep (fps []) w [b1 g31 a27 a28 a29 a30, b2 g34 0 0 0 0 0 0 0 0, b2 g191 t188 (wrap64 (a28 - 8)) 0 0 0 0 0 0] w211) := ⟨HS.out.sub (.cons_cons _ (.cons_cons _ (.cons _ (.cons _ (.cons_cons _ .slnil)))))⟩
      have hc348 : w211.cell? ⟨g191, 1, none⟩ = some (.int .i64 (wrap64 (a28 - 8))) := blk_cellv (HS.out.at2) 1 rfl
      have hc349 : w211.cell? ⟨g191, 2, none⟩ = some (.int .i64 0) := blk_cellv (HS.out.at2) 2 rfl
      have hz350 : w211.frozen? ⟨g191, 2, none⟩ = false := blk_fz (HS.out.at2) 2
      go_wp2_with (first | ((with_reducible refine gate_store (t := 3) (p := 29) rfl ?_); refine store_event (w1 := (World.setCell w211 ⟨g191, 2, none⟩ (.int .i64 (wrap64 ((wrap64 (a28 - 8)) + 1))))) rfl (t := 3) (p := 29) rfl rfl ?hr ?_; (case hr => first | (go_simp; done) | (go_simp; rfl)); intro w351 hst; clear hc348 hc349 hz350; have hq0 : Sep (fps []) w [b1 g31 a27 a28 a29 a30, b2 g34 0 0 0 0 0 0 0 0, b2 g191 t188 (wrap64 (a28 - 8)) (wrap64 ((wrap64 (a28 - 8)) + 1)) 0 0 0 0 0] (World.setCell w211 ⟨g191, 2, none⟩ (.int .i64 (wrap64 ((wrap64 (a28 - 8)) + 1)))) := (HS.out).set1 (l1 := [b1 g31 a27 a28 a29 a30, b2 g34 0 0 0 0 0 0 0 0]) (l2 := []) 2 (.int .i64 (wrap64 ((wrap64 (a28 - 8)) + 1))); replace HS : Aside0 (Sep (fps []) w [b1 g31 a27 a28 a29 a30, b2 g34 0 0 0 0 0 0 0 0, b2 g191 t188 (wrap64 (a28 - 8)) (wrap64 ((wrap64 (a28 - 8)) + 1)) 0 0 0 0 0] w351) := ⟨by rw [hst]; exact hq0⟩; clear hq0; clear hst; have hc352 : w351.cell? ⟨g191, 1, none⟩ = some (.int .i64 (wrap64 (a28 - 8))) := blk_cellv (HS.out.at2) 1 rfl; have hc353 : w351.cell? ⟨g31, 1, none⟩ = some (.int .i64 a28) := blk_cellv (HS.out.at0) 1 rfl) | ((with_reducible refine gate_dst (N := 35) rfl ?_); refine slice_on (n := 2) ?hg (N := 35) ?hd (cs := #[.int .i64 (wrap64 (a28 - 8)), .int .i64 (wrap64 (a28 - 1))]) (t := 3) ?hr ?_; (case hd => rfl); (case hg => rfl); (case hr => first | (go_simp; done) | (go_simp; rfl)); intro g354 hg w355 hbox hb; clear hc352 hc353; replace HS : Aside0 (Sep (fps []) w [b1 g31 a27 a28 a29 a30, b2 g34 0 0 0 0 0 0 0 0, b2 g191 t188 (wrap64 (a28 - 8)) (wrap64 ((wrap64 (a28 - 8)) + 1)) 0 0 0 0 0, b3 g354 (wrap64 (a28 - 8)) (wrap64 (a28 - 1))] w355) := ⟨HS.out.box hg hbox hb⟩; clear hg hbox hb))
      obtain ⟨t357, HA358, H⟩ := bind_some H
      refine (ratio_Mul.calls _ [wrap64 (a28 - 8), wrap64 (a28 - 1)] (some ⟨g354, 0, none⟩) 2 t357 _ ⟨Rd.lit (l := []) (xs := [wrap64 (a28 - 8), wrap64 (a28 - 1)]) HS.out 3 rfl (by simp)⟩ ⟨Sep.start _⟩ HA358).mono ?_
      rintro e_ w359 ⟨rfl, hS⟩
      replace HS : Aside0 (Sep (fps []) w [b1 g31 a27 a28 a29 a30, b2 g34 0 0 0 0 0 0 0 0, b2 g191 t188 (wrap64 (a28 - 8)) (wrap64 ((wrap64 (a28 - 8)) + 1)) 0 0 0 0 0, b3 g354 (wrap64 (a28 - 8)) (wrap64 (a28 - 1))] w359) := ⟨HS.out.call hS⟩
      clear hS
      have hc360 : w359.cell? ⟨g191, 3, none⟩ = some (.int .i64 0) := blk_cellv (HS.out.at2) 3 rfl
      have hz361 : w359.frozen? ⟨g191, 3, none⟩ = false := blk_fz (HS.out.at2) 3
      go_wp2_with (first | ((with_reducible refine gate_store (t := 3) (p := 37) rfl ?_); refine store_event (w1 := (World.setCell w359 ⟨g191, 3, none⟩ (.int .i64 t357))) rfl (t := 3) (p := 37) rfl rfl ?hr ?_; (case hr => first | (go_simp; done) | (go_simp; rfl)); intro w362 hst; clear hc360 hz361; have hq0 : Sep (fps []) w [b1 g31 a27 a28 a29 a30, b2 g34 0 0 0 0 0 0 0 0, b2 g191 t188 (wrap64 (a28 - 8)) (wrap64 ((wrap64 (a28 - 8)) + 1)) t357 0 0 0 0, b3 g354 (wrap64 (a28 - 8)) (wrap64 (a28 - 1))] (World.setCell w359 ⟨g191, 3, none⟩ (.int .i64 t357)) := (HS.out).set1 (l1 := [b1 g31 a27 a28 a29 a30, b2 g34 0 0 0 0 0 0 0 0]) (l2 := [b3 g354 (wrap64 (a28 - 8)) (wrap64 (a28 - 1))]) 3 (.int .i64 t357); replace HS : Aside0 (Sep (fps []) w [b1 g31 a27 a28 a29 a30, b2 g34 0 0 0 0 0 0 0 0, b2 g191 t188 (wrap64 (a28 - 8)) (wrap64 ((wrap64 (a28 - 8)) + 1)) t357 0 0 0 0, b3 g354 (wrap64 (a28 - 8)) (wrap64 (a28 - 1))] w362) := ⟨by rw [hst]; exact hq0⟩; clear hq0; clear hst; replace HS : Aside0 (Sep (fps []) w [b1 g31 a27 a28 a29 a30, b2 g34 0 0 0 0 0 0 0 0, b2 g191 t188 (wrap64 (a28 - 8)) (wrap64 ((wrap64 (a28 - 8)) + 1)) t357 0 0 0 0] w362) := ⟨HS.out.sub (.cons_cons _ (.cons_cons _ (.cons_cons _ (.cons _ .slnil))))⟩; have hc363 : w362.cell? ⟨g31, 0, none⟩ = some (.int .i64 a27) := blk_cellv (HS.out.at0) 0 rfl; have hc364 : w362.cell? ⟨g31, 1, none⟩ = some (.int .i64 a28) := blk_cellv (HS.out.at0) 1 rfl) | ((with_reducible refine gate_dst (N := 43) rfl ?_); refine slice_on (n := 2) ?hg (N := 43) ?hd (cs := #[.int .i64 a27, .int .i64 (wrap64 (a28 + 1))]) (t := 3) ?hr ?_; (case hd => rfl); (case hg => rfl); (case hr => first | (go_simp; done) | (go_simp; rfl)); intro g365 hg w366 hbox hb; clear hc363 hc364; replace HS : Aside0 (Sep (fps []) w [b1 g31 a27 a28 a29 a30, b2 g34 0 0 0 0 0 0 0 0, b2 g191 t188 (wrap64 (a28 - 8)) (wrap64 ((wrap64 (a28 - 8)) + 1)) t357 0 0 0 0, b3 g365 a27 (wrap64 (a28 + 1))] w366) := ⟨HS.out.box hg hbox hb⟩; clear hg hbox hb))
      obtain ⟨t368, HA369, H⟩ := bind_some H
      refine (ratio_Mul.calls _ [a27, wrap64 (a28 + 1)] (some ⟨g365, 0, none⟩) 2 t368 _ ⟨Rd.lit (l := []) (xs := [a27, wrap64 (a28 + 1)]) HS.out 3 rfl (by simp)⟩ ⟨Sep.start _⟩ HA369).mono ?_
      rintro e_ w370 ⟨rfl, hS⟩
      replace HS : Aside0 (Sep (fps []) w [b1 g31 a27 a28 a29 a30, b2 g34 0 0 0 0 0 0 0 0, b2 g191 t188 (wrap64 (a28 - 8)) (wrap64 ((wrap64 (a28 - 8)) + 1)) t357 0 0 0 0, b3 g365 a27 (wrap64 (a28 + 1))] w370) := ⟨HS.out.call hS⟩
      clear hS
      have hc371 : w370.cell? ⟨g191, 5, none⟩ = some (.int .i64 0) := blk_cellv (HS.out.at2) 5 rfl
      have hz372 : w370.frozen? ⟨g191, 5, none⟩ = false := blk_fz (HS.out.at2) 5
      go_wp2_with (first | ((with_reducible refine gate_store (t := 3) (p := 45) rfl ?_); refine store_event (w1 := (World.setCell w370 ⟨g191, 5, none⟩ (.int .i64 t368))) rfl (t := 3) (p := 45) rfl rfl ?hr ?_; (case hr => first | (go_simp; done) | (go_simp; rfl)); intro w373 hst; clear hc371 hz372; have hq0 : Sep (fps []) w [b1 g31 a27 a28 a29 a30, b2 g34 0 0 0 0 0 0 0 0, b2 g191 t188 (wrap64 (a28 - 8)) (wrap64 ((wrap64 (a28 - 8)) + 1)) t357 0 t368 0 0, b3 g365 a27 (wrap64 (a28 + 1))] (World.setCell w370 ⟨g191, 5, none⟩ (.int .i64 t368)) := (HS.out).set1 (l1 := [b1 g31 a27 a28 a29 a30, b2 g34 0 0 0 0 0 0 0 0]) (l2 := [b3 g365 a27 (wrap64 (a28 + 1))]) 5 (.int .i64 t368); replace HS : Aside0 (Sep (fps []) w [b1 g31 a27 a28 a29 a30, b2 g34 0 0 0 0 0 0 0 0, b2 g191 t188 (wrap64 (a28 - 8)) (wrap64 ((wrap64 (a28 - 8)) + 1)) t357 0 t368 0 0, b3 g365 a27 (wrap64 (a28 + 1))] w373) := ⟨by rw [hst]; exact hq0⟩; clear hq0; clear hst; replace HS : Aside0 (Sep (fps []) w [b1 g31 a27 a28 a29 a30, b2 g34 0 0 0 0 0 0 0 0, b2 g191 t188 (wrap64 (a28 - 8)) (wrap64 ((wrap64 (a28 - 8)) + 1)) t357 0 t368 0 0] w373) := ⟨HS.out.sub (.cons_cons _ (.cons_cons _ (.cons_cons _ (.cons _ .slnil))))⟩; have hc374 : w373.cell? ⟨g191, 5, none⟩ = some (.int .i64 t368) := blk_cellv (HS.out.at2) 5 rfl) | ((with_reducible refine gate_dst (N := 48) rfl ?_); refine slice_on (n := 2) ?hg (N := 48) ?hd (cs := #[.int .i64 3, .int .i64 t368]) (t := 3) ?hr ?_; (case hd => rfl); (case hg => rfl); (case hr => first | (go_simp; done) | (go_simp; rfl)); intro g375 hg w376 hbox hb; clear hc374; replace HS : Aside0 (Sep (fps []) w [b1 g31 a27 a28 a29 a30, b2 g34 0 0 0 0 0 0 0 0, b2 g191 t188 (wrap64 (a28 - 8)) (wrap64 ((wrap64 (a28 - 8)) + 1)) t357 0 t368 0 0, b3 g375 3 t368] w376) := ⟨HS.out.box hg hbox hb⟩; clear hg hbox hb))
      obtain ⟨t378, HA379, H⟩ := bind_some H
      refine (ratio_Mul.calls _ [3, t368] (some ⟨g375, 0, none⟩) 2 t378 _ ⟨Rd.lit (l := []) (xs := [3, t368]) HS.out 3 rfl (by simp)⟩ ⟨Sep.start _⟩ HA379).mono ?_
      rintro e_ w380 ⟨rfl, hS⟩
      replace HS : Aside0 (Sep (fps []) w [b1 g31 a27 a28 a29 a30, b2 g34 0 0 0 0 0 0 0 0, b2 g191 t188 (wrap64 (a28 - 8)) (wrap64 ((wrap64 (a28 - 8)) + 1)) t357 0 t368 0 0, b3 g375 3 t368] w380) := ⟨HS.out.call hS⟩
      clear hS
      go_wp2_with (first | ((with_reducible refine gate_dst (N := 50) rfl ?_); refine slice_on (n := 2) ?hg (N := 50) ?hd (cs := #[.int .i64 t378, .int .i64 4]) (t := 3) ?hr ?_; (case hd => rfl); (case hg => rfl); (case hr => first | (go_simp; done) | (go_simp; rfl)); intro g381 hg w382 hbox hb; replace HS : Aside0 (Sep (fps []) w [b1 g31 a27 a28 a29 a30, b2 g34 0 0 0 0 0 0 0 0, b2 g191 t188 (wrap64 (a28 - 8)) (wrap64 ((wrap64 (a28 - 8)) + 1)) t357 0 t368 0 0, b3 g375 3 t368, b3 g381 t378 4] w382) := ⟨HS.out.box hg hbox hb⟩; clear hg hbox hb))
      obtain ⟨t384, HA385, H⟩ := bind_some H
      refine (ratio_Add.calls _ [t378, 4] (some ⟨g381, 0, none⟩) 2 t384 _ ⟨Rd.lit (l := []) (xs := [t378, 4]) HS.out 4 rfl (by simp)⟩ ⟨Sep.start _⟩ HA385).mono ?_
      rintro e_ w386 ⟨rfl, hS⟩
      replace HS : Aside0 (Sep (fps []) w [b1 g31 a27 a28 a29 a30, b2 g34 0 0 0 0 0 0 0 0, b2 g191 t188 (wrap64 (a28 - 8)) (wrap64 ((wrap64 (a28 - 8)) + 1)) t357 0 t368 0 0, b3 g375 3 t368, b3 g381 t378 4] w386) := ⟨HS.out.call hS⟩
      clear hS
      have hc387 : w386.cell? ⟨g191, 4, none⟩ = some (.int .i64 0) := blk_cellv (HS.out.at2) 4 rfl
      have hz388 : w386.frozen? ⟨g191, 4, none⟩ = false := blk_fz (HS.out.at2) 4
      go_wp2_with (first | ((with_reducible refine gate_store (t := 3) (p := 52) rfl ?_); refine store_event (w1 := (World.setCell w386 ⟨g191, 4, none⟩ (.int .i64 t384))) rfl (t := 3) (p := 52) rfl rfl ?hr ?_; (case hr => first | (go_simp; done) | (go_simp; rfl)); intro w389 hst; clear hc387 hz388; have hq0 : Sep (fps []) w [b1 g31 a27 a28 a29 a30, b2 g34 0 0 0 0 0 0 0 0, b2 g191 t188 (wrap64 (a28 - 8)) (wrap64 ((wrap64 (a28 - 8)) + 1)) t357 t384 t368 0 0, b3 g375 3 t368, b3 g381 t378 4] (World.setCell w386 ⟨g191, 4, none⟩ (.int .i64 t384)) := (HS.out).set1 (l1 := [b1 g31 a27 a28 a29 a30, b2 g34 0 0 0 0 0 0 0 0]) (l2 := [b3 g375 3 t368, b3 g381 t378 4]) 4 (.int .i64 t384); replace HS : Aside0 (Sep (fps []) w [b1 g31 a27 a28 a29 a30, b2 g34 0 0 0 0 0 0 0 0, b2 g191 t188 (wrap64 (a28 - 8)) (wrap64 ((wrap64 (a28 - 8)) + 1)) t357 t384 t368 0 0, b3 g375 3 t368, b3 g381 t378 4] w389) := ⟨by rw [hst]; exact hq0⟩; clear hq0; clear hst; replace HS : Aside0 (Sep (fps []) w [b1 g31 a27 a28 a29 a30, b2 g34 0 0 0 0 0 0 0 0, b2 g191 t188 (wrap64 (a28 - 8)) (wrap64 ((wrap64 (a28 - 8)) + 1)) t357 t384 t368 0 0] w389) := ⟨HS.out.sub (.cons_cons _ (.cons_cons _ (.cons_cons _ (.cons _ (.cons _ .slnil)))))⟩))
      obtain ⟨t409, HA410, H⟩ := bind_some H
      obtain ⟨t415, HA416, H⟩ := bind_some H
      obtain ⟨t421, HA422, H⟩ := bind_some H
      obtain ⟨t427, HA428, H⟩ := bind_some H
      go_cut [] (fun wc => ∃ (g412 : Nat) (g418 : Nat) (g424 : Nat), Aside0 (Sep (fps []) w [b1 g31 a27 a28 a29 a30, b2 g34 0 0 0 0 0 0 0 0, b2 g191 t188 (wrap64 (a28 - 8)) (wrap64 ((wrap64 (a28 - 8)) + 1)) t357 t384 t368 t427 0, b3 g412 2 t409, b3 g418 2 (wrap64 ((wrap64 (a28 - 8)) + 1)), b3 g424 t415 t421] wc))
      case first =>
        go_wp2_with fail
        refine start_ (n := 15) (S := (fun w' => w'.cell? ⟨g191, 4, none⟩ = some (.int .i64 t384) ∧ w'.cell? ⟨g31, 3, none⟩ = some (.int .i64 a30) ∧ w'.cell? ⟨g191, 2, none⟩ = some (.int .i64 (wrap64 ((wrap64 (a28 - 8)) + 1))))) (ds := []) #[false, false, false, false, false, false, false, false, false, false, false, false, false, false, false] (by kernel_rfl) rfl rfl (⟨blk_cellv ((HS.out.drew).at2) 4 rfl, blk_cellv ((HS.out.drew).at0) 3 rfl, blk_cellv ((HS.out.drew).at2) 2 rfl⟩) (fun hHeld => ?_)
        have HS_ := Aside0.mk HS.out.drew
        clear HS
        generalize World.drew _ = w435 at HS_ hHeld ⊢
        have HS := HS_
        clear HS_
        refine pure_ (i := 0) (N := some 53) (v := ?_) (a' := ?_) #[true, false, false, false, false, false, false, false, false, false, false, false, false, false, false] rfl rfl (by kernel_rfl) (fun _ _ _ h => h) (Or.inl ⟨by rfl, ?_⟩) ?_ ?_
        rotate_left
        · intro w'
          go_simp
          with_reducible rfl
        rotate_left
        · simp only [Act.put, List.setIfInBounds_toArray, List.set_cons_zero, List.set_cons_succ, i64_w, i32_w]
          rfl
        refine pure_ (i := 2) (N := some 55) (v := ?_) (a' := ?_) #[true, false, true, false, false, false, false, false, false, false, false, false, false, false, false] rfl rfl (by kernel_rfl) (fun _ _ _ h => h) (Or.inl ⟨by rfl, ?_⟩) ?_ ?_
        rotate_left
        · intro w'
          go_simp
          with_reducible rfl
        rotate_left
        · simp only [Act.put, List.setIfInBounds_toArray, List.set_cons_zero, List.set_cons_succ, i64_w, i32_w]
          rfl
        refine pure_ (i := 7) (N := some 60) (v := ?_) (a' := ?_) #[true, false, true, false, false, false, false, true, false, false, false, false, false, false, false] rfl rfl (by kernel_rfl) (fun _ _ _ h => h) (Or.inl ⟨by rfl, ?_⟩) ?_ ?_
        rotate_left
        · intro w'
          go_simp
          with_reducible rfl
        rotate_left
        · simp only [Act.put, List.setIfInBounds_toArray, List.set_cons_zero, List.set_cons_succ, i64_w, i32_w]
          rfl
        refine take_ (i := 1) (N := some 54) (v := ?_) (a' := ?_) #[true, true, true, false, false, false, false, true, false, false, false, false, false, false, false] rfl rfl (by kernel_rfl) (fun _ _ _ h => h) (Or.inl ⟨by rfl, ?_⟩) hHeld ?_ ?_
        rotate_left
        · rintro w' hS'
          obtain ⟨s0, s1, s2⟩ := hS'
          go_simp
          with_reducible rfl
        rotate_left
        · simp only [Act.put, List.setIfInBounds_toArray, List.set_cons_zero, List.set_cons_succ, i64_w, i32_w]
          rfl
        refine take_ (i := 3) (N := some 56) (v := ?_) (a' := ?_) #[true, true, true, true, false, false, false, true, false, false, false, false, false, false, false] rfl rfl (by kernel_rfl) (fun _ _ _ h => h) (Or.inl ⟨by rfl, ?_⟩) hHeld ?_ ?_
        rotate_left
        · rintro w' hS'
          obtain ⟨s0, s1, s2⟩ := hS'
          go_simp
          with_reducible rfl
        rotate_left
        · simp only [Act.put, List.setIfInBounds_toArray, List.set_cons_zero, List.set_cons_succ, i64_w, i32_w]
          rfl
        refine take_ (i := 8) (N := some 61) (v := ?_) (a' := ?_) #[true, true, true, true, false, false, false, true, true, false, false, false, false, false, false] rfl rfl (by kernel_rfl) (fun _ _ _ h => h) (Or.inl ⟨by rfl, ?_⟩) hHeld ?_ ?_
        rotate_left
        · rintro w' hS'
          obtain ⟨s0, s1, s2⟩ := hS'
          go_simp
          with_reducible rfl
        rotate_left
        · simp only [Act.put, List.setIfInBounds_toArray, List.set_cons_zero, List.set_cons_succ, i64_w, i32_w]
          rfl
        refine two_ (i := 4) (j := 9) (Ni := some 57) (Nj := some 62) #[true, true, true, true, true, false, false, true, true, false, false, false, false, false, false] #[true, true, true, true, false, false, false, true, true, true, false, false, false, false, false] rfl rfl rfl rfl (by kernel_rfl) (by decide) (by decide) (fun K hK => ?_) (fun K hK => ?_)
        · refine goes_ Try.func108 (by kernel_rfl) rfl #[.int .i64 t384, .int .i64 a30] (by rfl) rfl rfl (by (try simp only [List.map_toArray, List.map_cons, List.map_nil]); first | done | rfl) ?_
          refine (ratio_Up.calls t384 a30 t409 _ ⟨Sep.start _⟩ HA410).mono ?_
          rintro e_ w437 ⟨rfl, hS⟩
          replace HS : Aside0 (Sep (fps []) w [b1 g31 a27 a28 a29 a30, b2 g34 0 0 0 0 0 0 0 0, b2 g191 t188 (wrap64 (a28 - 8)) (wrap64 ((wrap64 (a28 - 8)) + 1)) t357 t384 t368 0 0] w437) := ⟨HS.out.call hS⟩
          clear hS
          refine ⟨_, rfl, ?_⟩
          refine hK.out _ _ (⟨blk_cellv (HS.out.at2) 4 rfl, blk_cellv (HS.out.at0) 3 rfl, blk_cellv (HS.out.at2) 2 rfl⟩) (fun hHeld => ?_)
          clear hK K
          refine norm_ (a' := ?_) ?_ ?_
          rotate_left
          · show Act.put _ (some 57) _ = _
            simp only [Act.put, List.setIfInBounds_toArray, List.set_cons_zero, List.set_cons_succ, i64_w, i32_w]
            rfl
          refine two_ (i := 5) (j := 9) (Ni := some 58) (Nj := some 62) #[true, true, true, true, true, true, false, true, true, false, false, false, false, false, false] #[true, true, true, true, true, false, false, true, true, true, false, false, false, false, false] rfl rfl rfl rfl (by kernel_rfl) (by decide) (by decide) (fun K hK => ?_) (fun K hK => ?_)
          · refine slice_step (n := 2) (by rfl) (N := 58) rfl (cs := #[.int .i64 2, .int .i64 t409]) (t := 3) ?hr ?_
            case hr => first | (go_simp; done) | (go_simp; rfl)
            intro g438 hg w439 hbox hb
            replace HS : Aside0 (Sep (fps []) w [b1 g31 a27 a28 a29 a30, b2 g34 0 0 0 0 0 0 0 0, b2 g191 t188 (wrap64 (a28 - 8)) (wrap64 ((wrap64 (a28 - 8)) + 1)) t357 t384 t368 0 0, b3 g438 2 t409] w439) := ⟨HS.out.box hg hbox hb⟩
            clear hg hbox hb
            refine hK.out _ _ (⟨blk_cellv (HS.out.at2) 4 rfl, blk_cellv (HS.out.at0) 3 rfl, blk_cellv (HS.out.at2) 2 rfl⟩) (fun hHeld => ?_)
            clear hK K
            refine norm_ (a' := ?_) ?_ ?_
            rotate_left
            · show Act.put _ (some 58) _ = _
              simp only [Act.put, List.setIfInBounds_toArray, List.set_cons_zero, List.set_cons_succ, i64_w, i32_w]
              rfl
            refine two_ (i := 6) (j := 9) (Ni := some 59) (Nj := some 62) #[true, true, true, true, true, true, true, true, true, false, false, false, false, false, false] #[true, true, true, true, true, true, false, true, true, true, false, false, false, false, false] rfl rfl rfl rfl (by kernel_rfl) (by decide) (by decide) (fun K hK => ?_) (fun K hK => ?_)
            · refine goes_ Try.func107 (by kernel_rfl) rfl #[.slice (some ⟨g438, 0, none⟩) 2 2] (by rfl) rfl rfl (by (try simp only [List.map_toArray, List.map_cons, List.map_nil]); first | done | rfl) ?_
              refine (ratio_Mul.calls _ [2, t409] (some ⟨g438, 0, none⟩) 2 t415 _ ⟨Rd.lit (l := []) (xs := [2, t409]) HS.out 3 rfl (by simp)⟩ ⟨Sep.start _⟩ HA416).mono ?_
              rintro e_ w442 ⟨rfl, hS⟩
              replace HS : Aside0 (Sep (fps []) w [b1 g31 a27 a28 a29 a30, b2 g34 0 0 0 0 0 0 0 0, b2 g191 t188 (wrap64 (a28 - 8)) (wrap64 ((wrap64 (a28 - 8)) + 1)) t357 t384 t368 0 0, b3 g438 2 t409] w442) := ⟨HS.out.call hS⟩
              clear hS
              refine ⟨_, rfl, ?_⟩
              refine hK.out _ _ (⟨blk_cellv (HS.out.at2) 4 rfl, blk_cellv (HS.out.at0) 3 rfl, blk_cellv (HS.out.at2) 2 rfl⟩) (fun hHeld => ?_)
              clear hK K
              refine norm_ (a' := ?_) ?_ ?_
              rotate_left
              · show Act.put _ (some 59) _ = _
                simp only [Act.put, List.setIfInBounds_toArray, List.set_cons_zero, List.set_cons_succ, i64_w, i32_w]
                rfl
              refine one_ (i := 9) (N := some 62) #[true, true, true, true, true, true, true, true, true, true, false, false, false, false, false] rfl rfl (by kernel_rfl) (by decide) (fun K hK => ?_)
              refine slice_step (n := 2) (by rfl) (N := 62) rfl (cs := #[.int .i64 2, .int .i64 (wrap64 ((wrap64 (a28 - 8)) + 1))]) (t := 3) ?hr ?_
              case hr => first | (go_simp; done) | (go_simp; rfl)
              intro g443 hg w444 hbox hb
              replace HS : Aside0 (Sep (fps []) w [b1 g31 a27 a28 a29 a30, b2 g34 0 0 0 0 0 0 0 0, b2 g191 t188 (wrap64 (a28 - 8)) (wrap64 ((wrap64 (a28 - 8)) + 1)) t357 t384 t368 0 0, b3 g438 2 t409, b3 g443 2 (wrap64 ((wrap64 (a28 - 8)) + 1))] w444) := ⟨HS.out.box hg hbox hb⟩
              clear hg hbox hb
              refine hK.out _ _ (⟨blk_cellv (HS.out.at2) 4 rfl, blk_cellv (HS.out.at0) 3 rfl, blk_cellv (HS.out.at2) 2 rfl⟩) (fun hHeld => ?_)
              clear hK K
              refine norm_ (a' := ?_) ?_ ?_
              rotate_left
              · show Act.put _ (some 62) _ = _
                simp only [Act.put, List.setIfInBounds_toArray, List.set_cons_zero, List.set_cons_succ, i64_w, i32_w]
                rfl
              refine one_ (i := 10) (N := some 63) #[true, true, true, true, true, true, true, true, true, true, true, false, false, false, false] rfl rfl (by kernel_rfl) (by decide) (fun K hK => ?_)
              refine goes_ Try.func107 (by kernel_rfl) rfl #[.slice (some ⟨g443, 0, none⟩) 2 2] (by rfl) rfl rfl (by (try simp only [List.map_toArray, List.map_cons, List.map_nil]); first | done | rfl) ?_
              refine (ratio_Mul.calls _ [2, wrap64 ((wrap64 (a28 - 8)) + 1)] (some ⟨g443, 0, none⟩) 2 t421 _ ⟨Rd.lit (l := []) (xs := [2, wrap64 ((wrap64 (a28 - 8)) + 1)]) HS.out 4 rfl (by simp)⟩ ⟨Sep.start _⟩ HA422).mono ?_
              rintro e_ w447 ⟨rfl, hS⟩
              replace HS : Aside0 (Sep (fps []) w [b1 g31 a27 a28 a29 a30, b2 g34 0 0 0 0 0 0 0 0, b2 g191 t188 (wrap64 (a28 - 8)) (wrap64 ((wrap64 (a28 - 8)) + 1)) t357 t384 t368 0 0, b3 g438 2 t409, b3 g443 2 (wrap64 ((wrap64 (a28 - 8)) + 1))] w447) := ⟨HS.out.call hS⟩
              clear hS
              refine ⟨_, rfl, ?_⟩
              refine hK.out _ _ (⟨blk_cellv (HS.out.at2) 4 rfl, blk_cellv (HS.out.at0) 3 rfl, blk_cellv (HS.out.at2) 2 rfl⟩) (fun hHeld => ?_)
              clear hK K
              refine norm_ (a' := ?_) ?_ ?_
              rotate_left
              · show Act.put _ (some 63) _ = _
                simp only [Act.put, List.setIfInBounds_toArray, List.set_cons_zero, List.set_cons_succ, i64_w, i32_w]
                rfl
              refine one_ (i := 11) (N := some 64) #[true, true, true, true, true, true, true, true, true, true, true, true, false, false, false] rfl rfl (by kernel_rfl) (by decide) (fun K hK => ?_)
              refine slice_step (n := 2) (by rfl) (N := 64) rfl (cs := #[.int .i64 t415, .int .i64 t421]) (t := 3) ?hr ?_
              case hr => first | (go_simp; done) | (go_simp; rfl)
              intro g448 hg w449 hbox hb
              replace HS : Aside0 (Sep (fps []) w [b1 g31 a27 a28 a29 a30, b2 g34 0 0 0 0 0 0 0 0, b2 g191 t188 (wrap64 (a28 - 8)) (wrap64 ((wrap64 (a28 - 8)) + 1)) t357 t384 t368 0 0, b3 g438 2 t409, b3 g443 2 (wrap64 ((wrap64 (a28 - 8)) + 1)), b3 g448 t415 t421] w449) := ⟨HS.out.box hg hbox hb⟩
              clear hg hbox hb
              refine hK.out _ _ (⟨blk_cellv (HS.out.at2) 4 rfl, blk_cellv (HS.out.at0) 3 rfl, blk_cellv (HS.out.at2) 2 rfl⟩) (fun hHeld => ?_)
              clear hK K
              refine norm_ (a' := ?_) ?_ ?_
              rotate_left
              · show Act.put _ (some 64) _ = _
                simp only [Act.put, List.setIfInBounds_toArray, List.set_cons_zero, List.set_cons_succ, i64_w, i32_w]
                rfl
              refine one_ (i := 12) (N := some 65) #[true, true, true, true, true, true, true, true, true, true, true, true, true, false, false] rfl rfl (by kernel_rfl) (by decide) (fun K hK => ?_)
              refine goes_ Try.func106 (by kernel_rfl) rfl #[.slice (some ⟨g448, 0, none⟩) 2 2] (by rfl) rfl rfl (by (try simp only [List.map_toArray, List.map_cons, List.map_nil]); first | done | rfl) ?_
              refine (ratio_Add.calls _ [t415, t421] (some ⟨g448, 0, none⟩) 2 t427 _ ⟨Rd.lit (l := []) (xs := [t415, t421]) HS.out 5 rfl (by simp)⟩ ⟨Sep.start _⟩ HA428).mono ?_
              rintro e_ w452 ⟨rfl, hS⟩
              replace HS : Aside0 (Sep (fps []) w [b1 g31 a27 a28 a29 a30, b2 g34 0 0 0 0 0 0 0 0, b2 g191 t188 (wrap64 (a28 - 8)) (wrap64 ((wrap64 (a28 - 8)) + 1)) t357 t384 t368 0 0, b3 g438 2 t409, b3 g443 2 (wrap64 ((wrap64 (a28 - 8)) + 1)), b3 g448 t415 t421] w452) := ⟨HS.out.call hS⟩
              clear hS
              refine ⟨_, rfl, ?_⟩
              refine hK.out _ _ (⟨blk_cellv (HS.out.at2) 4 rfl, blk_cellv (HS.out.at0) 3 rfl, blk_cellv (HS.out.at2) 2 rfl⟩) (fun hHeld => ?_)
              clear hK K
              refine norm_ (a' := ?_) ?_ ?_
              rotate_left
              · show Act.put _ (some 65) _ = _
                simp only [Act.put, List.setIfInBounds_toArray, List.set_cons_zero, List.set_cons_succ, i64_w, i32_w]
                rfl
              refine pure_ (i := 13) (N := some 66) (v := ?_) (a' := ?_) #[true, true, true, true, true, true, true, true, true, true, true, true, true, true, false] rfl rfl (by kernel_rfl) (fun _ _ _ h => h) (Or.inl ⟨by rfl, ?_⟩) ?_ ?_
              rotate_left
              · intro w'
                go_simp
                with_reducible rfl
              rotate_left
              · simp only [Act.put, List.setIfInBounds_toArray, List.set_cons_zero, List.set_cons_succ, i64_w, i32_w]
                rfl
              refine one_ (i := 14) (N := none) #[true, true, true, true, true, true, true, true, true, true, true, true, true, true, true] rfl rfl (by kernel_rfl) (by decide) (fun K hK => ?_)
              have hc454 := blk_cellv (v := .int .i64 0) (HS.out.at2) 6 rfl
              have hz455 := blk_fz (HS.out.at2) 6
              refine store_step (w1 := (World.setCell w452 ⟨g191, 6, none⟩ (.int .i64 t427))) (by rfl) rfl ?hr ?_
              case hr => first | (go_simp; done) | (go_simp; rfl)
              clear hc454 hz455
              intro w453 hst
              have hq0 : Sep (fps []) w [b1 g31 a27 a28 a29 a30, b2 g34 0 0 0 0 0 0 0 0, b2 g191 t188 (wrap64 (a28 - 8)) (wrap64 ((wrap64 (a28 - 8)) + 1)) t357 t384 t368 t427 0, b3 g438 2 t409, b3 g443 2 (wrap64 ((wrap64 (a28 - 8)) + 1)), b3 g448 t415 t421] (World.setCell w452 ⟨g191, 6, none⟩ (.int .i64 t427)) := (HS.out).set1 (l1 := [b1 g31 a27 a28 a29 a30, b2 g34 0 0 0 0 0 0 0 0]) (l2 := [b3 g438 2 t409, b3 g443 2 (wrap64 ((wrap64 (a28 - 8)) + 1)), b3 g448 t415 t421]) 6 (.int .i64 t427)
              have HS_ : Aside0 (Sep (fps []) w [b1 g31 a27 a28 a29 a30, b2 g34 0 0 0 0 0 0 0 0, b2 g191 t188 (wrap64 (a28 - 8)) (wrap64 ((wrap64 (a28 - 8)) + 1)) t357 t384 t368 t427 0, b3 g438 2 t409, b3 g443 2 (wrap64 ((wrap64 (a28 - 8)) + 1)), b3 g448 t415 t421] w453) := ⟨by rw [hst]; exact hq0⟩
              clear hq0
              clear HS hst
              have HS := HS_
              clear HS_
              refine hK.out _ _ (⟨blk_cellv (HS.out.at2) 4 rfl, blk_cellv (HS.out.at0) 3 rfl, blk_cellv (HS.out.at2) 2 rfl⟩) (fun hHeld => ?_)
              clear hK K
              refine done_ (by kernel_rfl) ?_
              go_wp2_with fail
              go_meet
              case rel => exact ⟨g438, g443, g448, ⟨((((((HS.out).front 5 (by simp)).front 5 (by simp)).front 5 (by simp)).front 5 (by simp)).front 5 (by simp)).front 5 (by simp)⟩⟩
            · refine slice_step (n := 2) (by rfl) (N := 62) rfl (cs := #[.int .i64 2, .int .i64 (wrap64 ((wrap64 (a28 - 8)) + 1))]) (t := 3) ?hr ?_
              case hr => first | (go_simp; done) | (go_simp; rfl)
              intro g456 hg w457 hbox hb
              replace HS : Aside0 (Sep (fps []) w [b1 g31 a27 a28 a29 a30, b2 g34 0 0 0 0 0 0 0 0, b2 g191 t188 (wrap64 (a28 - 8)) (wrap64 ((wrap64 (a28 - 8)) + 1)) t357 t384 t368 0 0, b3 g438 2 t409, b3 g456 2 (wrap64 ((wrap64 (a28 - 8)) + 1))] w457) := ⟨HS.out.box hg hbox hb⟩
              clear hg hbox hb
              refine hK.out _ _ (⟨blk_cellv (HS.out.at2) 4 rfl, blk_cellv (HS.out.at0) 3 rfl, blk_cellv (HS.out.at2) 2 rfl⟩) (fun hHeld => ?_)
              clear hK K
              refine norm_ (a' := ?_) ?_ ?_
              rotate_left
              · show Act.put _ (some 62) _ = _
                simp only [Act.put, List.setIfInBounds_toArray, List.set_cons_zero, List.set_cons_succ, i64_w, i32_w]
                rfl
              refine one_ (i := 6) (N := some 59) #[true, true, true, true, true, true, true, true, true, true, false, false, false, false, false] rfl rfl (by kernel_rfl) (by decide) (fun K hK => ?_)
              refine goes_ Try.func107 (by kernel_rfl) rfl #[.slice (some ⟨g438, 0, none⟩) 2 2] (by rfl) rfl rfl (by (try simp only [List.map_toArray, List.map_cons, List.map_nil]); first | done | rfl) ?_
              refine (ratio_Mul.calls _ [2, t409] (some ⟨g438, 0, none⟩) 2 t415 _ ⟨Rd.lit (l := []) (xs := [2, t409]) HS.out 3 rfl (by simp)⟩ ⟨Sep.start _⟩ HA416).mono ?_
              rintro e_ w460 ⟨rfl, hS⟩
              replace HS : Aside0 (Sep (fps []) w [b1 g31 a27 a28 a29 a30, b2 g34 0 0 0 0 0 0 0 0, b2 g191 t188 (wrap64 (a28 - 8)) (wrap64 ((wrap64 (a28 - 8)) + 1)) t357 t384 t368 0 0, b3 g438 2 t409, b3 g456 2 (wrap64 ((wrap64 (a28 - 8)) + 1))] w460) := ⟨HS.out.call hS⟩
              clear hS
              refine ⟨_, rfl, ?_⟩
              refine hK.out _ _ (⟨blk_cellv (HS.out.at2) 4 rfl, blk_cellv (HS.out.at0) 3 rfl, blk_cellv (HS.out.at2) 2 rfl⟩) (fun hHeld => ?_)
              clear hK K
              refine norm_ (a' := ?_) ?_ ?_
              rotate_left
              · show Act.put _ (some 59) _ = _
                simp only [Act.put, List.setIfInBounds_toArray, List.set_cons_zero, List.set_cons_succ, i64_w, i32_w]
                rfl
              refine one_ (i := 10) (N := some 63) #[true, true, true, true, true, true, true, true, true, true, true, false, false, false, false] rfl rfl (by kernel_rfl) (by decide) (fun K hK => ?_)
              refine goes_ Try.func107 (by kernel_rfl) rfl #[.slice (some ⟨g456, 0, none⟩) 2 2] (by rfl) rfl rfl (by (try simp only [List.map_toArray, List.map_cons, List.map_nil]); first | done | rfl) ?_
              refine (ratio_Mul.calls _ [2, wrap64 ((wrap64 (a28 - 8)) + 1)] (some ⟨g456, 0, none⟩) 2 t421 _ ⟨Rd.lit (l := []) (xs := [2, wrap64 ((wrap64 (a28 - 8)) + 1)]) HS.out 4 rfl (by simp)⟩ ⟨Sep.start _⟩ HA422).mono ?_
              rintro e_ w462 ⟨rfl, hS⟩
              replace HS : Aside0 (Sep (fps []) w [b1 g31 a27 a28 a29 a30, b2 g34 0 0 0 0 0 0 0 0, b2 g191 t188 (wrap64 (a28 - 8)) (wrap64 ((wrap64 (a28 - 8)) + 1)) t357 t384 t368 0 0, b3 g438 2 t409, b3 g456 2 (wrap64 ((wrap64 (a28 - 8)) + 1))] w462) := ⟨HS.out.call hS⟩
              clear hS
              refine ⟨_, rfl, ?_⟩
              refine hK.out _ _ (⟨blk_cellv (HS.out.at2) 4 rfl, blk_cellv (HS.out.at0) 3 rfl, blk_cellv (HS.out.at2) 2 rfl⟩) (fun hHeld => ?_)
              clear hK K
              refine norm_ (a' := ?_) ?_ ?_
              rotate_left
              · show Act.put _ (some 63) _ = _
                simp only [Act.put, List.setIfInBounds_toArray, List.set_cons_zero, List.set_cons_succ, i64_w, i32_w]
                rfl
              refine one_ (i := 11) (N := some 64) #[true, true, true, true, true, true, true, true, true, true, true, true, false, false, false] rfl rfl (by kernel_rfl) (by decide) (fun K hK => ?_)
              refine slice_step (n := 2) (by rfl) (N := 64) rfl (cs := #[.int .i64 t415, .int .i64 t421]) (t := 3) ?hr ?_
              case hr => first | (go_simp; done) | (go_simp; rfl)
              intro g463 hg w464 hbox hb
              replace HS : Aside0 (Sep (fps []) w [b1 g31 a27 a28 a29 a30, b2 g34 0 0 0 0 0 0 0 0, b2 g191 t188 (wrap64 (a28 - 8)) (wrap64 ((wrap64 (a28 - 8)) + 1)) t357 t384 t368 0 0, b3 g438 2 t409, b3 g456 2 (wrap64 ((wrap64 (a28 - 8)) + 1)), b3 g463 t415 t421] w464) := ⟨HS.out.box hg hbox hb⟩
              clear hg hbox hb
              refine hK.out _ _ (⟨blk_cellv (HS.out.at2) 4 rfl, blk_cellv (HS.out.at0) 3 rfl, blk_cellv (HS.out.at2) 2 rfl⟩) (fun hHeld => ?_)
              clear hK K
              refine norm_ (a' := ?_) ?_ ?_
              rotate_left
              · show Act.put _ (some 64) _ = _
                simp only [Act.put, List.setIfInBounds_toArray, List.set_cons_zero, List.set_cons_succ, i64_w, i32_w]
                rfl
              refine one_ (i := 12) (N := some 65) #[true, true, true, true, true, true, true, true, true, true, true, true, true, false, false] rfl rfl (by kernel_rfl) (by decide) (fun K hK => ?_)
              refine goes_ Try.func106 (by kernel_rfl) rfl #[.slice (some ⟨g463, 0, none⟩) 2 2] (by rfl) rfl rfl (by (try simp only [List.map_toArray, List.map_cons, List.map_nil]); first | done | rfl) ?_
              refine (ratio_Add.calls _ [t415, t421] (some ⟨g463, 0, none⟩) 2 t427 _ ⟨Rd.lit (l := []) (xs := [t415, t421]) HS.out 5 rfl (by simp)⟩ ⟨Sep.start _⟩ HA428).mono ?_
              rintro e_ w467 ⟨rfl, hS⟩
              replace HS : Aside0 (Sep (fps []) w [b1 g31 a27 a28 a29 a30, b2 g34 0 0 0 0 0 0 0 0, b2 g191 t188 (wrap64 (a28 - 8)) (wrap64 ((wrap64 (a28 - 8)) + 1)) t357 t384 t368 0 0, b3 g438 2 t409, b3 g456 2 (wrap64 ((wrap64 (a28 - 8)) + 1)), b3 g463 t415 t421] w467) := ⟨HS.out.call hS⟩
              clear hS
              refine ⟨_, rfl, ?_⟩
              refine hK.out _ _ (⟨blk_cellv (HS.out.at2) 4 rfl, blk_cellv (HS.out.at0) 3 rfl, blk_cellv (HS.out.at2) 2 rfl⟩) (fun hHeld => ?_)
              clear hK K
              refine norm_ (a' := ?_) ?_ ?_
              rotate_left
              · show Act.put _ (some 65) _ = _
                simp only [Act.put, List.setIfInBounds_toArray, List.set_cons_zero, List.set_cons_succ, i64_w, i32_w]
                rfl
              refine pure_ (i := 13) (N := some 66) (v := ?_) (a' := ?_) #[true, true, true, true, true, true, true, true, true, true, true, true, true, true, false] rfl rfl (by kernel_rfl) (fun _ _ _ h => h) (Or.inl ⟨by rfl, ?_⟩) ?_ ?_
              rotate_left
              · intro w'
                go_simp
                with_reducible rfl
              rotate_left
              · simp only [Act.put, List.setIfInBounds_toArray, List.set_cons_zero, List.set_cons_succ, i64_w, i32_w]
                rfl
              refine one_ (i := 14) (N := none) #[true, true, true, true, true, true, true, true, true, true, true, true, true, true, true] rfl rfl (by kernel_rfl) (by decide) (fun K hK => ?_)
              have hc469 := blk_cellv (v := .int .i64 0) (HS.out.at2) 6 rfl
              have hz470 := blk_fz (HS.out.at2) 6
              refine store_step (w1 := (World.setCell w467 ⟨g191, 6, none⟩ (.int .i64 t427))) (by rfl) rfl ?hr ?_
              case hr => first | (go_simp; done) | (go_simp; rfl)
              clear hc469 hz470
              intro w468 hst
              have hq0 : Sep (fps []) w [b1 g31 a27 a28 a29 a30, b2 g34 0 0 0 0 0 0 0 0, b2 g191 t188 (wrap64 (a28 - 8)) (wrap64 ((wrap64 (a28 - 8)) + 1)) t357 t384 t368 t427 0, b3 g438 2 t409, b3 g456 2 (wrap64 ((wrap64 (a28 - 8)) + 1)), b3 g463 t415 t421] (World.setCell w467 ⟨g191, 6, none⟩ (.int .i64 t427)) := (HS.out).set1 (l1 := [b1 g31 a27 a28 a29 a30, b2 g34 0 0 0 0 0 0 0 0]) (l2 := [b3 g438 2 t409, b3 g456 2 (wrap64 ((wrap64 (a28 - 8)) + 1)), b3 g463 t415 t421]) 6 (.int .i64 t427)
              have HS_ : Aside0 (Sep (fps []) w [b1 g31 a27 a28 a29 a30, b2 g34 0 0 0 0 0 0 0 0, b2 g191 t188 (wrap64 (a28 - 8)) (wrap64 ((wrap64 (a28 - 8)) + 1)) t357 t384 t368 t427 0, b3 g438 2 t409, b3 g456 2 (wrap64 ((wrap64 (a28 - 8)) + 1)), b3 g463 t415 t421] w468) := ⟨by rw [hst]; exact hq0⟩
              clear hq0
              clear HS hst
              have HS := HS_
              clear HS_
              refine hK.out _ _ (⟨blk_cellv (HS.out.at2) 4 rfl, blk_cellv (HS.out.at0) 3 rfl, blk_cellv (HS.out.at2) 2 rfl⟩) (fun hHeld => ?_)
              clear hK K
              refine done_ (by kernel_rfl) ?_
              go_wp2_with fail
              go_meet
              case rel => exact ⟨g438, g456, g463, ⟨((((((HS.out).front 5 (by simp)).front 5 (by simp)).front 5 (by simp)).front 5 (by simp)).front 5 (by simp)).front 5 (by simp)⟩⟩
          · refine slice_step (n := 2) (by rfl) (N := 62) rfl (cs := #[.int .i64 2, .int .i64 (wrap64 ((wrap64 (a28 - 8)) + 1))]) (t := 3) ?hr ?_
            case hr => first | (go_simp; done) | (go_simp; rfl)
            intro g471 hg w472 hbox hb
            replace HS : Aside0 (Sep (fps []) w [b1 g31 a27 a28 a29 a30, b2 g34 0 0 0 0 0 0 0 0, b2 g191 t188 (wrap64 (a28 - 8)) (wrap64 ((wrap64 (a28 - 8)) + 1)) t357 t384 t368 0 0, b3 g471 2 (wrap64 ((wrap64 (a28 - 8)) + 1))] w472) := ⟨HS.out.box hg hbox hb⟩
            clear hg hbox hb
            refine hK.out _ _ (⟨blk_cellv (HS.out.at2) 4 rfl, blk_cellv (HS.out.at0) 3 rfl, blk_cellv (HS.out.at2) 2 rfl⟩) (fun hHeld => ?_)
            clear hK K
            refine norm_ (a' := ?_) ?_ ?_
            rotate_left
            · show Act.put _ (some 62) _ = _
              simp only [Act.put, List.setIfInBounds_toArray, List.set_cons_zero, List.set_cons_succ, i64_w, i32_w]
              rfl
            refine one_ (i := 5) (N := some 58) #[true, true, true, true, true, true, false, true, true, true, false, false, false, false, false] rfl rfl (by kernel_rfl) (by decide) (fun K hK => ?_)
            refine slice_step (n := 2) (by rfl) (N := 58) rfl (cs := #[.int .i64 2, .int .i64 t409]) (t := 3) ?hr ?_
            case hr => first | (go_simp; done) | (go_simp; rfl)
            intro g474 hg w475 hbox hb
            replace HS : Aside0 (Sep (fps []) w [b1 g31 a27 a28 a29 a30, b2 g34 0 0 0 0 0 0 0 0, b2 g191 t188 (wrap64 (a28 - 8)) (wrap64 ((wrap64 (a28 - 8)) + 1)) t357 t384 t368 0 0, b3 g471 2 (wrap64 ((wrap64 (a28 - 8)) + 1)), b3 g474 2 t409] w475) := ⟨HS.out.box hg hbox hb⟩
            clear hg hbox hb
            refine hK.out _ _ (⟨blk_cellv (HS.out.at2) 4 rfl, blk_cellv (HS.out.at0) 3 rfl, blk_cellv (HS.out.at2) 2 rfl⟩) (fun hHeld => ?_)
            clear hK K
            refine norm_ (a' := ?_) ?_ ?_
            rotate_left
            · show Act.put _ (some 58) _ = _
              simp only [Act.put, List.setIfInBounds_toArray, List.set_cons_zero, List.set_cons_succ, i64_w, i32_w]
              rfl
            refine one_ (i := 6) (N := some 59) #[true, true, true, true, true, true, true, true, true, true, false, false, false, false, false] rfl rfl (by kernel_rfl) (by decide) (fun K hK => ?_)
            refine goes_ Try.func107 (by kernel_rfl) rfl #[.slice (some ⟨g474, 0, none⟩) 2 2] (by rfl) rfl rfl (by (try simp only [List.map_toArray, List.map_cons, List.map_nil]); first | done | rfl) ?_
            refine (ratio_Mul.calls _ [2, t409] (some ⟨g474, 0, none⟩) 2 t415 _ ⟨Rd.lit (l := []) (xs := [2, t409]) HS.out 4 rfl (by simp)⟩ ⟨Sep.start _⟩ HA416).mono ?_
            rintro e_ w478 ⟨rfl, hS⟩
            replace HS : Aside0 (Sep (fps []) w [b1 g31 a27 a28 a29 a30, b2 g34 0 0 0 0 0 0 0 0, b2 g191 t188 (wrap64 (a28 - 8)) (wrap64 ((wrap64 (a28 - 8)) + 1)) t357 t384 t368 0 0, b3 g471 2 (wrap64 ((wrap64 (a28 - 8)) + 1)), b3 g474 2 t409] w478) := ⟨HS.out.call hS⟩
            clear hS
            refine ⟨_, rfl, ?_⟩
            refine hK.out _ _ (⟨blk_cellv (HS.out.at2) 4 rfl, blk_cellv (HS.out.at0) 3 rfl, blk_cellv (HS.out.at2) 2 rfl⟩) (fun hHeld => ?_)
            clear hK K
            refine norm_ (a' := ?_) ?_ ?_
            rotate_left
            · show Act.put _ (some 59) _ = _
              simp only [Act.put, List.setIfInBounds_toArray, List.set_cons_zero, List.set_cons_succ, i64_w, i32_w]
              rfl
            refine one_ (i := 10) (N := some 63) #[true, true, true, true, true, true, true, true, true, true, true, false, false, false, false] rfl rfl (by kernel_rfl) (by decide) (fun K hK => ?_)
            refine goes_ Try.func107 (by kernel_rfl) rfl #[.slice (some ⟨g471, 0, none⟩) 2 2] (by rfl) rfl rfl (by (try simp only [List.map_toArray, List.map_cons, List.map_nil]); first | done | rfl) ?_
            refine (ratio_Mul.calls _ [2, wrap64 ((wrap64 (a28 - 8)) + 1)] (some ⟨g471, 0, none⟩) 2 t421 _ ⟨Rd.lit (l := []) (xs := [2, wrap64 ((wrap64 (a28 - 8)) + 1)]) HS.out 3 rfl (by simp)⟩ ⟨Sep.start _⟩ HA422).mono ?_
            rintro e_ w480 ⟨rfl, hS⟩
            replace HS : Aside0 (Sep (fps []) w [b1 g31 a27 a28 a29 a30, b2 g34 0 0 0 0 0 0 0 0, b2 g191 t188 (wrap64 (a28 - 8)) (wrap64 ((wrap64 (a28 - 8)) + 1)) t357 t384 t368 0 0, b3 g471 2 (wrap64 ((wrap64 (a28 - 8)) + 1)), b3 g474 2 t409] w480) := ⟨HS.out.call hS⟩
            clear hS
            refine ⟨_, rfl, ?_⟩
            refine hK.out _ _ (⟨blk_cellv (HS.out.at2) 4 rfl, blk_cellv (HS.out.at0) 3 rfl, blk_cellv (HS.out.at2) 2 rfl⟩) (fun hHeld => ?_)
            clear hK K
            refine norm_ (a' := ?_) ?_ ?_
            rotate_left
            · show Act.put _ (some 63) _ = _
              simp only [Act.put, List.setIfInBounds_toArray, List.set_cons_zero, List.set_cons_succ, i64_w, i32_w]
              rfl
            refine one_ (i := 11) (N := some 64) #[true, true, true, true, true, true, true, true, true, true, true, true, false, false, false] rfl rfl (by kernel_rfl) (by decide) (fun K hK => ?_)
            refine slice_step (n := 2) (by rfl) (N := 64) rfl (cs := #[.int .i64 t415, .int .i64 t421]) (t := 3) ?hr ?_
            case hr => first | (go_simp; done) | (go_simp; rfl)
            intro g481 hg w482 hbox hb
            replace HS : Aside0 (Sep (fps []) w [b1 g31 a27 a28 a29 a30, b2 g34 0 0 0 0 0 0 0 0, b2 g191 t188 (wrap64 (a28 - 8)) (wrap64 ((wrap64 (a28 - 8)) + 1)) t357 t384 t368 0 0, b3 g471 2 (wrap64 ((wrap64 (a28 - 8)) + 1)), b3 g474 2 t409, b3 g481 t415 t421] w482) := ⟨HS.out.box hg hbox hb⟩
            clear hg hbox hb
            refine hK.out _ _ (⟨blk_cellv (HS.out.at2) 4 rfl, blk_cellv (HS.out.at0) 3 rfl, blk_cellv (HS.out.at2) 2 rfl⟩) (fun hHeld => ?_)
            clear hK K
            refine norm_ (a' := ?_) ?_ ?_
            rotate_left
            · show Act.put _ (some 64) _ = _
              simp only [Act.put, List.setIfInBounds_toArray, List.set_cons_zero, List.set_cons_succ, i64_w, i32_w]
              rfl
            refine one_ (i := 12) (N := some 65) #[true, true, true, true, true, true, true, true, true, true, true, true, true, false, false] rfl rfl (by kernel_rfl) (by decide) (fun K hK => ?_)
            refine goes_ Try.func106 (by kernel_rfl) rfl #[.slice (some ⟨g481, 0, none⟩) 2 2] (by rfl) rfl rfl (by (try simp only [List.map_toArray, List.map_cons, List.map_nil]); first | done | rfl) ?_
            refine (ratio_Add.calls _ [t415, t421] (some ⟨g481, 0, none⟩) 2 t427 _ ⟨Rd.lit (l := []) (xs := [t415, t421]) HS.out 5 rfl (by simp)⟩ ⟨Sep.start _⟩ HA428).mono ?_
            rintro e_ w485 ⟨rfl, hS⟩
            replace HS : Aside0 (Sep (fps []) w [b1 g31 a27 a28 a29 a30, b2 g34 0 0 0 0 0 0 0 0, b2 g191 t188 (wrap64 (a28 - 8)) (wrap64 ((wrap64 (a28 - 8)) + 1)) t357 t384 t368 0 0, b3 g471 2 (wrap64 ((wrap64 (a28 - 8)) + 1)), b3 g474 2 t409, b3 g481 t415 t421] w485) := ⟨HS.out.call hS⟩
            clear hS
            refine ⟨_, rfl, ?_⟩
            refine hK.out _ _ (⟨blk_cellv (HS.out.at2) 4 rfl, blk_cellv (HS.out.at0) 3 rfl, blk_cellv (HS.out.at2) 2 rfl⟩) (fun hHeld => ?_)
            clear hK K
            refine norm_ (a' := ?_) ?_ ?_
            rotate_left
            · show Act.put _ (some 65) _ = _
              simp only [Act.put, List.setIfInBounds_toArray, List.set_cons_zero, List.set_cons_succ, i64_w, i32_w]
              rfl
            refine pure_ (i := 13) (N := some 66) (v := ?_) (a' := ?_) #[true, true, true, true, true, true, true, true, true, true, true, true, true, true, false] rfl rfl (by kernel_rfl) (fun _ _ _ h => h) (Or.inl ⟨by rfl, ?_⟩) ?_ ?_
            rotate_left
            · intro w'
              go_simp
              with_reducible rfl
            rotate_left
            · simp only [Act.put, List.setIfInBounds_toArray, List.set_cons_zero, List.set_cons_succ, i64_w, i32_w]
              rfl
            refine one_ (i := 14) (N := none) #[true, true, true, true, true, true, true, true, true, true, true, true, true, true, true] rfl rfl (by kernel_rfl) (by decide) (fun K hK => ?_)
            have hc487 := blk_cellv (v := .int .i64 0) (HS.out.at2) 6 rfl
            have hz488 := blk_fz (HS.out.at2) 6
            refine store_step (w1 := (World.setCell w485 ⟨g191, 6, none⟩ (.int .i64 t427))) (by rfl) rfl ?hr ?_
            case hr => first | (go_simp; done) | (go_simp; rfl)
            clear hc487 hz488
            intro w486 hst
            have hq0 : Sep (fps []) w [b1 g31 a27 a28 a29 a30, b2 g34 0 0 0 0 0 0 0 0, b2 g191 t188 (wrap64 (a28 - 8)) (wrap64 ((wrap64 (a28 - 8)) + 1)) t357 t384 t368 t427 0, b3 g471 2 (wrap64 ((wrap64 (a28 - 8)) + 1)), b3 g474 2 t409, b3 g481 t415 t421] (World.setCell w485 ⟨g191, 6, none⟩ (.int .i64 t427)) := (HS.out).set1 (l1 := [b1 g31 a27 a28 a29 a30, b2 g34 0 0 0 0 0 0 0 0]) (l2 := [b3 g471 2 (wrap64 ((wrap64 (a28 - 8)) + 1)), b3 g474 2 t409, b3 g481 t415 t421]) 6 (.int .i64 t427)
            have HS_ : Aside0 (Sep (fps []) w [b1 g31 a27 a28 a29 a30, b2 g34 0 0 0 0 0 0 0 0, b2 g191 t188 (wrap64 (a28 - 8)) (wrap64 ((wrap64 (a28 - 8)) + 1)) t357 t384 t368 t427 0, b3 g471 2 (wrap64 ((wrap64 (a28 - 8)) + 1)), b3 g474 2 t409, b3 g481 t415 t421] w486) := ⟨by rw [hst]; exact hq0⟩
            clear hq0
            clear HS hst
            have HS := HS_
            clear HS_
            refine hK.out _ _ (⟨blk_cellv (HS.out.at2) 4 rfl, blk_cellv (HS.out.at0) 3 rfl, blk_cellv (HS.out.at2) 2 rfl⟩) (fun hHeld => ?_)
            clear hK K
            refine done_ (by kernel_rfl) ?_
            go_wp2_with fail
            go_meet
            case rel => exact ⟨g474, g471, g481, ⟨((((((HS.out).front 5 (by simp)).front 4 (by simp)).front 5 (by simp)).front 5 (by simp)).front 5 (by simp)).front 5 (by simp)⟩⟩
        · refine slice_step (n := 2) (by rfl) (N := 62) rfl (cs := #[.int .i64 2, .int .i64 (wrap64 ((wrap64 (a28 - 8)) + 1))]) (t := 3) ?hr ?_
          case hr => first | (go_simp; done) | (go_simp; rfl)
          intro g489 hg w490 hbox hb
          replace HS : Aside0 (Sep (fps []) w [b1 g31 a27 a28 a29 a30, b2 g34 0 0 0 0 0 0 0 0, b2 g191 t188 (wrap64 (a28 - 8)) (wrap64 ((wrap64 (a28 - 8)) + 1)) t357 t384 t368 0 0, b3 g489 2 (wrap64 ((wrap64 (a28 - 8)) + 1))] w490) := ⟨HS.out.box hg hbox hb⟩
          clear hg hbox hb
          refine hK.out _ _ (⟨blk_cellv (HS.out.at2) 4 rfl, blk_cellv (HS.out.at0) 3 rfl, blk_cellv (HS.out.at2) 2 rfl⟩) (fun hHeld => ?_)
          clear hK K
          refine norm_ (a' := ?_) ?_ ?_
          rotate_left
          · show Act.put _ (some 62) _ = _
            simp only [Act.put, List.setIfInBounds_toArray, List.set_cons_zero, List.set_cons_succ, i64_w, i32_w]
            rfl
          refine one_ (i := 4) (N := some 57) #[true, true, true, true, true, false, false, true, true, true, false, false, false, false, false] rfl rfl (by kernel_rfl) (by decide) (fun K hK => ?_)
          refine goes_ Try.func108 (by kernel_rfl) rfl #[.int .i64 t384, .int .i64 a30] (by rfl) rfl rfl (by (try simp only [List.map_toArray, List.map_cons, List.map_nil]); first | done | rfl) ?_
          refine (ratio_Up.calls t384 a30 t409 _ ⟨Sep.start _⟩ HA410).mono ?_
          rintro e_ w493 ⟨rfl, hS⟩
          replace HS : Aside0 (Sep (fps []) w [b1 g31 a27 a28 a29 a30, b2 g34 0 0 0 0 0 0 0 0, b2 g191 t188 (wrap64 (a28 - 8)) (wrap64 ((wrap64 (a28 - 8)) + 1)) t357 t384 t368 0 0, b3 g489 2 (wrap64 ((wrap64 (a28 - 8)) + 1))] w493) := ⟨HS.out.call hS⟩
          clear hS
          refine ⟨_, rfl, ?_⟩
          refine hK.out _ _ (⟨blk_cellv (HS.out.at2) 4 rfl, blk_cellv (HS.out.at0) 3 rfl, blk_cellv (HS.out.at2) 2 rfl⟩) (fun hHeld => ?_)
          clear hK K
          refine norm_ (a' := ?_) ?_ ?_
          rotate_left
          · show Act.put _ (some 57) _ = _
            simp only [Act.put, List.setIfInBounds_toArray, List.set_cons_zero, List.set_cons_succ, i64_w, i32_w]
            rfl
          refine one_ (i := 5) (N := some 58) #[true, true, true, true, true, true, false, true, true, true, false, false, false, false, false] rfl rfl (by kernel_rfl) (by decide) (fun K hK => ?_)
          refine slice_step (n := 2) (by rfl) (N := 58) rfl (cs := #[.int .i64 2, .int .i64 t409]) (t := 3) ?hr ?_
          case hr => first | (go_simp; done) | (go_simp; rfl)
          intro g494 hg w495 hbox hb
          replace HS : Aside0 (Sep (fps []) w [b1 g31 a27 a28 a29 a30, b2 g34 0 0 0 0 0 0 0 0, b2 g191 t188 (wrap64 (a28 - 8)) (wrap64 ((wrap64 (a28 - 8)) + 1)) t357 t384 t368 0 0, b3 g489 2 (wrap64 ((wrap64 (a28 - 8)) + 1)), b3 g494 2 t409] w495) := ⟨HS.out.box hg hbox hb⟩
          clear hg hbox hb
          refine hK.out _ _ (⟨blk_cellv (HS.out.at2) 4 rfl, blk_cellv (HS.out.at0) 3 rfl, blk_cellv (HS.out.at2) 2 rfl⟩) (fun hHeld => ?_)
          clear hK K
          refine norm_ (a' := ?_) ?_ ?_
          rotate_left
          · show Act.put _ (some 58) _ = _
            simp only [Act.put, List.setIfInBounds_toArray, List.set_cons_zero, List.set_cons_succ, i64_w, i32_w]
            rfl
          refine one_ (i := 6) (N := some 59) #[true, true, true, true, true, true, true, true, true, true, false, false, false, false, false] rfl rfl (by kernel_rfl) (by decide) (fun K hK => ?_)
          refine goes_ Try.func107 (by kernel_rfl) rfl #[.slice (some ⟨g494, 0, none⟩) 2 2] (by rfl) rfl rfl (by (try simp only [List.map_toArray, List.map_cons, List.map_nil]); first | done | rfl) ?_
          refine (ratio_Mul.calls _ [2, t409] (some ⟨g494, 0, none⟩) 2 t415 _ ⟨Rd.lit (l := []) (xs := [2, t409]) HS.out 4 rfl (by simp)⟩ ⟨Sep.start _⟩ HA416).mono ?_
          rintro e_ w498 ⟨rfl, hS⟩
          replace HS : Aside0 (Sep (fps []) w [b1 g31 a27 a28 a29 a30, b2 g34 0 0 0 0 0 0 0 0, b2 g191 t188 (wrap64 (a28 - 8)) (wrap64 ((wrap64 (a28 - 8)) + 1)) t357 t384 t368 0 0, b3 g489 2 (wrap64 ((wrap64 (a28 - 8)) + 1)), b3 g494 2 t409] w498) := ⟨HS.out.call hS⟩
          clear hS
          refine ⟨_, rfl, ?_⟩
          refine hK.out _ _ (⟨blk_cellv (HS.out.at2) 4 rfl, blk_cellv (HS.out.at0) 3 rfl, blk_cellv (HS.out.at2) 2 rfl⟩) (fun hHeld => ?_)
          clear hK K
          refine norm_ (a' := ?_) ?_ ?_
          rotate_left
          · show Act.put _ (some 59) _ = _
            simp only [Act.put, List.setIfInBounds_toArray, List.set_cons_zero, List.set_cons_succ, i64_w, i32_w]
            rfl
          refine one_ (i := 10) (N := some 63) #[true, true, true, true, true, true, true, true, true, true, true, false, false, false, false] rfl rfl (by kernel_rfl) (by decide) (fun K hK => ?_)
          refine goes_ Try.func107 (by kernel_rfl) rfl #[.slice (some ⟨g489, 0, none⟩) 2 2] (by rfl) rfl rfl (by (try simp only [List.map_toArray, List.map_cons, List.map_nil]); first | done | rfl) ?_
          refine (ratio_Mul.calls _ [2, wrap64 ((wrap64 (a28 - 8)) + 1)] (some ⟨g489, 0, none⟩) 2 t421 _ ⟨Rd.lit (l := []) (xs := [2, wrap64 ((wrap64 (a28 - 8)) + 1)]) HS.out 3 rfl (by simp)⟩ ⟨Sep.start _⟩ HA422).mono ?_
          rintro e_ w500 ⟨rfl, hS⟩
          replace HS : Aside0 (Sep (fps []) w [b1 g31 a27 a28 a29 a30, b2 g34 0 0 0 0 0 0 0 0, b2 g191 t188 (wrap64 (a28 - 8)) (wrap64 ((wrap64 (a28 - 8)) + 1)) t357 t384 t368 0 0, b3 g489 2 (wrap64 ((wrap64 (a28 - 8)) + 1)), b3 g494 2 t409] w500) := ⟨HS.out.call hS⟩
          clear hS
          refine ⟨_, rfl, ?_⟩
          refine hK.out _ _ (⟨blk_cellv (HS.out.at2) 4 rfl, blk_cellv (HS.out.at0) 3 rfl, blk_cellv (HS.out.at2) 2 rfl⟩) (fun hHeld => ?_)
          clear hK K
          refine norm_ (a' := ?_) ?_ ?_
          rotate_left
          · show Act.put _ (some 63) _ = _
            simp only [Act.put, List.setIfInBounds_toArray, List.set_cons_zero, List.set_cons_succ, i64_w, i32_w]
            rfl
          refine one_ (i := 11) (N := some 64) #[true, true, true, true, true, true, true, true, true, true, true, true, false, false, false] rfl rfl (by kernel_rfl) (by decide) (fun K hK => ?_)
          refine slice_step (n := 2) (by rfl) (N := 64) rfl (cs := #[.int .i64 t415, .int .i64 t421]) (t := 3) ?hr ?_
          case hr => first | (go_simp; done) | (go_simp; rfl)
          intro g501 hg w502 hbox hb
          replace HS : Aside0 (Sep (fps []) w [b1 g31 a27 a28 a29 a30, b2 g34 0 0 0 0 0 0 0 0, b2 g191 t188 (wrap64 (a28 - 8)) (wrap64 ((wrap64 (a28 - 8)) + 1)) t357 t384 t368 0 0, b3 g489 2 (wrap64 ((wrap64 (a28 - 8)) + 1)), b3 g494 2 t409, b3 g501 t415 t421] w502) := ⟨HS.out.box hg hbox hb⟩
          clear hg hbox hb
          refine hK.out _ _ (⟨blk_cellv (HS.out.at2) 4 rfl, blk_cellv (HS.out.at0) 3 rfl, blk_cellv (HS.out.at2) 2 rfl⟩) (fun hHeld => ?_)
          clear hK K
          refine norm_ (a' := ?_) ?_ ?_
          rotate_left
          · show Act.put _ (some 64) _ = _
            simp only [Act.put, List.setIfInBounds_toArray, List.set_cons_zero, List.set_cons_succ, i64_w, i32_w]
            rfl
          refine one_ (i := 12) (N := some 65) #[true, true, true, true, true, true, true, true, true, true, true, true, true, false, false] rfl rfl (by kernel_rfl) (by decide) (fun K hK => ?_)
          refine goes_ Try.func106 (by kernel_rfl) rfl #[.slice (some ⟨g501, 0, none⟩) 2 2] (by rfl) rfl rfl (by (try simp only [List.map_toArray, List.map_cons, List.map_nil]); first | done | rfl) ?_
          refine (ratio_Add.calls _ [t415, t421] (some ⟨g501, 0, none⟩) 2 t427 _ ⟨Rd.lit (l := []) (xs := [t415, t421]) HS.out 5 rfl (by simp)⟩ ⟨Sep.start _⟩ HA428).mono ?_
          rintro e_ w505 ⟨rfl, hS⟩
          replace HS : Aside0 (Sep (fps []) w [b1 g31 a27 a28 a29 a30, b2 g34 0 0 0 0 0 0 0 0, b2 g191 t188 (wrap64 (a28 - 8)) (wrap64 ((wrap64 (a28 - 8)) + 1)) t357 t384 t368 0 0, b3 g489 2 (wrap64 ((wrap64 (a28 - 8)) + 1)), b3 g494 2 t409, b3 g501 t415 t421] w505) := ⟨HS.out.call hS⟩
          clear hS
          refine ⟨_, rfl, ?_⟩
          refine hK.out _ _ (⟨blk_cellv (HS.out.at2) 4 rfl, blk_cellv (HS.out.at0) 3 rfl, blk_cellv (HS.out.at2) 2 rfl⟩) (fun hHeld => ?_)
          clear hK K
          refine norm_ (a' := ?_) ?_ ?_
          rotate_left
          · show Act.put _ (some 65) _ = _
            simp only [Act.put, List.setIfInBounds_toArray, List.set_cons_zero, List.set_cons_succ, i64_w, i32_w]
            rfl
          refine pure_ (i := 13) (N := some 66) (v := ?_) (a' := ?_) #[true, true, true, true, true, true, true, true, true, true, true, true, true, true, false] rfl rfl (by kernel_rfl) (fun _ _ _ h => h) (Or.inl ⟨by rfl, ?_⟩) ?_ ?_
          rotate_left
          · intro w'
            go_simp
            with_reducible rfl
          rotate_left
          · simp only [Act.put, List.setIfInBounds_toArray, List.set_cons_zero, List.set_cons_succ, i64_w, i32_w]
            rfl
          refine one_ (i := 14) (N := none) #[true, true, true, true, true, true, true, true, true, true, true, true, true, true, true] rfl rfl (by kernel_rfl) (by decide) (fun K hK => ?_)
          have hc507 := blk_cellv (v := .int .i64 0) (HS.out.at2) 6 rfl
          have hz508 := blk_fz (HS.out.at2) 6
          refine store_step (w1 := (World.setCell w505 ⟨g191, 6, none⟩ (.int .i64 t427))) (by rfl) rfl ?hr ?_
          case hr => first | (go_simp; done) | (go_simp; rfl)
          clear hc507 hz508
          intro w506 hst
          have hq0 : Sep (fps []) w [b1 g31 a27 a28 a29 a30, b2 g34 0 0 0 0 0 0 0 0, b2 g191 t188 (wrap64 (a28 - 8)) (wrap64 ((wrap64 (a28 - 8)) + 1)) t357 t384 t368 t427 0, b3 g489 2 (wrap64 ((wrap64 (a28 - 8)) + 1)), b3 g494 2 t409, b3 g501 t415 t421] (World.setCell w505 ⟨g191, 6, none⟩ (.int .i64 t427)) := (HS.out).set1 (l1 := [b1 g31 a27 a28 a29 a30, b2 g34 0 0 0 0 0 0 0 0]) (l2 := [b3 g489 2 (wrap64 ((wrap64 (a28 - 8)) + 1)), b3 g494 2 t409, b3 g501 t415 t421]) 6 (.int .i64 t427)
          have HS_ : Aside0 (Sep (fps []) w [b1 g31 a27 a28 a29 a30, b2 g34 0 0 0 0 0 0 0 0, b2 g191 t188 (wrap64 (a28 - 8)) (wrap64 ((wrap64 (a28 - 8)) + 1)) t357 t384 t368 t427 0, b3 g489 2 (wrap64 ((wrap64 (a28 - 8)) + 1)), b3 g494 2 t409, b3 g501 t415 t421] w506) := ⟨by rw [hst]; exact hq0⟩
          clear hq0
          clear HS hst
          have HS := HS_
          clear HS_
          refine hK.out _ _ (⟨blk_cellv (HS.out.at2) 4 rfl, blk_cellv (HS.out.at0) 3 rfl, blk_cellv (HS.out.at2) 2 rfl⟩) (fun hHeld => ?_)
          clear hK K
          refine done_ (by kernel_rfl) ?_
          go_wp2_with fail
          go_meet
          case rel => exact ⟨g494, g489, g501, ⟨((((((HS.out).front 5 (by simp)).front 4 (by simp)).front 5 (by simp)).front 5 (by simp)).front 5 (by simp)).front 5 (by simp)⟩⟩
      case rest =>
        clear HS
        obtain ⟨g412, g418, g424, HS⟩ := hcut
        obtain ⟨w433, rfl⟩ : ∃ x : World, x = wc := ⟨_, rfl⟩
        replace HS : Aside0 (Sep (fps []) w [b1 g31 a27 a28 a29 a30, b2 g34 0 0 0 0 0 0 0 0, b2 g191 t188 (wrap64 (a28 - 8)) (wrap64 ((wrap64 (a28 - 8)) + 1)) t357 t384 t368 t427 0] w433) := ⟨HS.out.sub (.cons_cons _ (.cons_cons _ (.cons_cons _ (.cons _ (.cons _ (.cons _ .slnil))))))⟩
        go_wp2_with fail
        refine start_ (n := 15) (S := (fun w' => w'.cell? ⟨g191, 4, none⟩ = some (.int .i64 t384) ∧ w'.cell? ⟨g191, 5, none⟩ = some (.int .i64 t368) ∧ w'.cell? ⟨g31, 3, none⟩ = some (.int .i64 a30))) (ds := []) #[false, false, false, false, false, false, false, false, false, false, false, false, false, false, false] (by kernel_rfl) rfl rfl (⟨blk_cellv ((HS.out.drew).at2) 4 rfl, blk_cellv ((HS.out.drew).at2) 5 rfl, blk_cellv ((HS.out.drew).at0) 3 rfl⟩) (fun hHeld => ?_)
        have HS_ := Aside0.mk HS.out.drew
        clear HS
        generalize World.drew _ = w510 at HS_ hHeld ⊢
        have HS := HS_
        clear HS_
        refine pure_ (i := 0) (N := some 67) (v := ?_) (a' := ?_) #[true, false, false, false, false, false, false, false, false, false, false, false, false, false, false] rfl rfl (by kernel_rfl) (fun _ _ _ h => h) (Or.inl ⟨by rfl, ?_⟩) ?_ ?_
        rotate_left
        · intro w'
          go_simp
          with_reducible rfl
        rotate_left
        · simp only [Act.put, List.setIfInBounds_toArray, List.set_cons_zero, List.set_cons_succ, i64_w, i32_w]
          rfl
        refine pure_ (i := 2) (N := some 69) (v := ?_) (a' := ?_) #[true, false, true, false, false, false, false, false, false, false, false, false, false, false, false] rfl rfl (by kernel_rfl) (fun _ _ _ h => h) (Or.inl ⟨by rfl, ?_⟩) ?_ ?_
        rotate_left
        · intro w'
          go_simp
          with_reducible rfl
        rotate_left
        · simp only [Act.put, List.setIfInBounds_toArray, List.set_cons_zero, List.set_cons_succ, i64_w, i32_w]
          rfl
        refine pure_ (i := 4) (N := some 71) (v := ?_) (a' := ?_) #[true, false, true, false, true, false, false, false, false, false, false, false, false, false, false] rfl rfl (by kernel_rfl) (fun _ _ _ h => h) (Or.inl ⟨by rfl, ?_⟩) ?_ ?_
        rotate_left
        · intro w'
          go_simp
          with_reducible rfl
        rotate_left
        · simp only [Act.put, List.setIfInBounds_toArray, List.set_cons_zero, List.set_cons_succ, i64_w, i32_w]
          rfl
        refine pure_ (i := 8) (N := some 75) (v := ?_) (a' := ?_) #[true, false, true, false, true, false, false, false, true, false, false, false, false, false, false] rfl rfl (by kernel_rfl) (fun _ _ _ h => h) (Or.inl ⟨by rfl, ?_⟩) ?_ ?_
        rotate_left
        · intro w'
          go_simp
          with_reducible rfl
        rotate_left
        · simp only [Act.put, List.setIfInBounds_toArray, List.set_cons_zero, List.set_cons_succ, i64_w, i32_w]
          rfl
        refine take_ (i := 1) (N := some 68) (v := ?_) (a' := ?_) #[true, true, true, false, true, false, false, false, true, false, false, false, false, false, false] rfl rfl (by kernel_rfl) (fun _ _ _ h => h) (Or.inl ⟨by rfl, ?_⟩) hHeld ?_ ?_
        rotate_left
        · rintro w' hS'
          obtain ⟨s0, s1, s2⟩ := hS'
          go_simp
          with_reducible rfl
        rotate_left
        · simp only [Act.put, List.setIfInBounds_toArray, List.set_cons_zero, List.set_cons_succ, i64_w, i32_w]
          rfl
        refine take_ (i := 3) (N := some 70) (v := ?_) (a' := ?_) #[true, true, true, true, true, false, false, false, true, false, false, false, false, false, false] rfl rfl (by kernel_rfl) (fun _ _ _ h => h) (Or.inl ⟨by rfl, ?_⟩) hHeld ?_ ?_
        rotate_left
        · rintro w' hS'
          obtain ⟨s0, s1, s2⟩ := hS'
          go_simp
          with_reducible rfl
        rotate_left
        · simp only [Act.put, List.setIfInBounds_toArray, List.set_cons_zero, List.set_cons_succ, i64_w, i32_w]
          rfl
        refine take_ (i := 5) (N := some 72) (v := ?_) (a' := ?_) #[true, true, true, true, true, true, false, false, true, false, false, false, false, false, false] rfl rfl (by kernel_rfl) (fun _ _ _ h => h) (Or.inl ⟨by rfl, ?_⟩) hHeld ?_ ?_
        rotate_left
        · rintro w' hS'
          obtain ⟨s0, s1, s2⟩ := hS'
          go_simp
          with_reducible rfl
        rotate_left
        · simp only [Act.put, List.setIfInBounds_toArray, List.set_cons_zero, List.set_cons_succ, i64_w, i32_w]
          rfl
        refine take_ (i := 9) (N := some 76) (v := ?_) (a' := ?_) #[true, true, true, true, true, true, false, false, true, true, false, false, false, false, false] rfl rfl (by kernel_rfl) (fun _ _ _ h => h) (Or.inl ⟨by rfl, ?_⟩) hHeld ?_ ?_
        rotate_left
        · rintro w' hS'
          obtain ⟨s0, s1, s2⟩ := hS'
          go_simp
          with_reducible rfl
        rotate_left
        · simp only [Act.put, List.setIfInBounds_toArray, List.set_cons_zero, List.set_cons_succ, i64_w, i32_w]
          rfl
        refine one_ (i := 6) (N := some 73) #[true, true, true, true, true, true, true, false, true, true, false, false, false, false, false] rfl rfl (by kernel_rfl) (by decide) (fun K hK => ?_)
        refine slice_step (n := 3) (by rfl) (N := 73) rfl (cs := #[.int .i64 t384, .int .i64 t384, .int .i64 t368]) (t := 3) ?hr ?_
        case hr => first | (go_simp; done) | (go_simp; rfl)
        intro g511 hg w512 hbox hb
        replace HS : Aside0 (Sep (fps []) w [b1 g31 a27 a28 a29 a30, b2 g34 0 0 0 0 0 0 0 0, b2 g191 t188 (wrap64 (a28 - 8)) (wrap64 ((wrap64 (a28 - 8)) + 1)) t357 t384 t368 t427 0, b4 g511 t384 t384 t368] w512) := ⟨HS.out.box hg hbox hb⟩
        clear hg hbox hb
        refine hK.out _ _ (⟨blk_cellv (HS.out.at2) 4 rfl, blk_cellv (HS.out.at2) 5 rfl, blk_cellv (HS.out.at0) 3 rfl⟩) (fun hHeld => ?_)
        clear hK K
        refine norm_ (a' := ?_) ?_ ?_
        rotate_left
        · show Act.put _ (some 73) _ = _
          simp only [Act.put, List.setIfInBounds_toArray, List.set_cons_zero, List.set_cons_succ, i64_w, i32_w]
          rfl
        refine one_ (i := 7) (N := some 74) #[true, true, true, true, true, true, true, true, true, true, false, false, false, false, false] rfl rfl (by kernel_rfl) (by decide) (fun K hK => ?_)
        obtain ⟨t514, HA515, H⟩ := bind_some H
        refine goes_ Try.func106 (by kernel_rfl) rfl #[.slice (some ⟨g511, 0, none⟩) 3 3] (by rfl) rfl rfl (by (try simp only [List.map_toArray, List.map_cons, List.map_nil]); first | done | rfl) ?_
        refine (ratio_Add.calls _ [t384, t384, t368] (some ⟨g511, 0, none⟩) 3 t514 _ ⟨Rd.lit (l := []) (xs := [t384, t384, t368]) HS.out 3 rfl (by simp)⟩ ⟨Sep.start _⟩ HA515).mono ?_
        rintro e_ w516 ⟨rfl, hS⟩
        replace HS : Aside0 (Sep (fps []) w [b1 g31 a27 a28 a29 a30, b2 g34 0 0 0 0 0 0 0 0, b2 g191 t188 (wrap64 (a28 - 8)) (wrap64 ((wrap64 (a28 - 8)) + 1)) t357 t384 t368 t427 0, b4 g511 t384 t384 t368] w516) := ⟨HS.out.call hS⟩
        clear hS
        refine ⟨_, rfl, ?_⟩
        refine hK.out _ _ (⟨blk_cellv (HS.out.at2) 4 rfl, blk_cellv (HS.out.at2) 5 rfl, blk_cellv (HS.out.at0) 3 rfl⟩) (fun hHeld => ?_)
        clear hK K
        refine norm_ (a' := ?_) ?_ ?_
        rotate_left
        · show Act.put _ (some 74) _ = _
          simp only [Act.put, List.setIfInBounds_toArray, List.set_cons_zero, List.set_cons_succ, i64_w, i32_w]
          rfl
        refine one_ (i := 10) (N := some 77) #[true, true, true, true, true, true, true, true, true, true, true, false, false, false, false] rfl rfl (by kernel_rfl) (by decide) (fun K hK => ?_)
        obtain ⟨t517, HA518, H⟩ := bind_some H
        refine goes_ Try.func108 (by kernel_rfl) rfl #[.int .i64 t514, .int .i64 a30] (by rfl) rfl rfl (by (try simp only [List.map_toArray, List.map_cons, List.map_nil]); first | done | rfl) ?_
        refine (ratio_Up.calls t514 a30 t517 _ ⟨Sep.start _⟩ HA518).mono ?_
        rintro e_ w519 ⟨rfl, hS⟩
        replace HS : Aside0 (Sep (fps []) w [b1 g31 a27 a28 a29 a30, b2 g34 0 0 0 0 0 0 0 0, b2 g191 t188 (wrap64 (a28 - 8)) (wrap64 ((wrap64 (a28 - 8)) + 1)) t357 t384 t368 t427 0, b4 g511 t384 t384 t368] w519) := ⟨HS.out.call hS⟩
        clear hS
        refine ⟨_, rfl, ?_⟩
        refine hK.out _ _ (⟨blk_cellv (HS.out.at2) 4 rfl, blk_cellv (HS.out.at2) 5 rfl, blk_cellv (HS.out.at0) 3 rfl⟩) (fun hHeld => ?_)
        clear hK K
        refine norm_ (a' := ?_) ?_ ?_
        rotate_left
        · show Act.put _ (some 77) _ = _
          simp only [Act.put, List.setIfInBounds_toArray, List.set_cons_zero, List.set_cons_succ, i64_w, i32_w]
          rfl
        refine one_ (i := 11) (N := some 78) #[true, true, true, true, true, true, true, true, true, true, true, true, false, false, false] rfl rfl (by kernel_rfl) (by decide) (fun K hK => ?_)
        refine slice_step (n := 2) (by rfl) (N := 78) rfl (cs := #[.int .i64 t517, .int .i64 2]) (t := 3) ?hr ?_
        case hr => first | (go_simp; done) | (go_simp; rfl)
        intro g520 hg w521 hbox hb
        replace HS : Aside0 (Sep (fps []) w [b1 g31 a27 a28 a29 a30, b2 g34 0 0 0 0 0 0 0 0, b2 g191 t188 (wrap64 (a28 - 8)) (wrap64 ((wrap64 (a28 - 8)) + 1)) t357 t384 t368 t427 0, b4 g511 t384 t384 t368, b3 g520 t517 2] w521) := ⟨HS.out.box hg hbox hb⟩
        clear hg hbox hb
        refine hK.out _ _ (⟨blk_cellv (HS.out.at2) 4 rfl, blk_cellv (HS.out.at2) 5 rfl, blk_cellv (HS.out.at0) 3 rfl⟩) (fun hHeld => ?_)
        clear hK K
        refine norm_ (a' := ?_) ?_ ?_
        rotate_left
        · show Act.put _ (some 78) _ = _
          simp only [Act.put, List.setIfInBounds_toArray, List.set_cons_zero, List.set_cons_succ, i64_w, i32_w]
          rfl
        refine one_ (i := 12) (N := some 79) #[true, true, true, true, true, true, true, true, true, true, true, true, true, false, false] rfl rfl (by kernel_rfl) (by decide) (fun K hK => ?_)
        obtain ⟨t523, HA524, H⟩ := bind_some H
        refine goes_ Try.func106 (by kernel_rfl) rfl #[.slice (some ⟨g520, 0, none⟩) 2 2] (by rfl) rfl rfl (by (try simp only [List.map_toArray, List.map_cons, List.map_nil]); first | done | rfl) ?_
        refine (ratio_Add.calls _ [t517, 2] (some ⟨g520, 0, none⟩) 2 t523 _ ⟨Rd.lit (l := []) (xs := [t517, 2]) HS.out 4 rfl (by simp)⟩ ⟨Sep.start _⟩ HA524).mono ?_
        rintro e_ w525 ⟨rfl, hS⟩
        replace HS : Aside0 (Sep (fps []) w [b1 g31 a27 a28 a29 a30, b2 g34 0 0 0 0 0 0 0 0, b2 g191 t188 (wrap64 (a28 - 8)) (wrap64 ((wrap64 (a28 - 8)) + 1)) t357 t384 t368 t427 0, b4 g511 t384 t384 t368, b3 g520 t517 2] w525) := ⟨HS.out.call hS⟩
        clear hS
        refine ⟨_, rfl, ?_⟩
        refine hK.out _ _ (⟨blk_cellv (HS.out.at2) 4 rfl, blk_cellv (HS.out.at2) 5 rfl, blk_cellv (HS.out.at0) 3 rfl⟩) (fun hHeld => ?_)
        clear hK K
        refine norm_ (a' := ?_) ?_ ?_
        rotate_left
        · show Act.put _ (some 79) _ = _
          simp only [Act.put, List.setIfInBounds_toArray, List.set_cons_zero, List.set_cons_succ, i64_w, i32_w]
          rfl
        refine pure_ (i := 13) (N := some 80) (v := ?_) (a' := ?_) #[true, true, true, true, true, true, true, true, true, true, true, true, true, true, false] rfl rfl (by kernel_rfl) (fun _ _ _ h => h) (Or.inl ⟨by rfl, ?_⟩) ?_ ?_
        rotate_left
        · intro w'
          go_simp
          with_reducible rfl
        rotate_left
        · simp only [Act.put, List.setIfInBounds_toArray, List.set_cons_zero, List.set_cons_succ, i64_w, i32_w]
          rfl
        refine one_ (i := 14) (N := none) #[true, true, true, true, true, true, true, true, true, true, true, true, true, true, true] rfl rfl (by kernel_rfl) (by decide) (fun K hK => ?_)
        have hc527 := blk_cellv (v := .int .i64 0) (HS.out.at2) 7 rfl
        have hz528 := blk_fz (HS.out.at2) 7
        refine store_step (w1 := (World.setCell w525 ⟨g191, 7, none⟩ (.int .i64 t523))) (by rfl) rfl ?hr ?_
        case hr => first | (go_simp; done) | (go_simp; rfl)
        clear hc527 hz528
        intro w526 hst
        have hq0 : Sep (fps []) w [b1 g31 a27 a28 a29 a30, b2 g34 0 0 0 0 0 0 0 0, b2 g191 t188 (wrap64 (a28 - 8)) (wrap64 ((wrap64 (a28 - 8)) + 1)) t357 t384 t368 t427 t523, b4 g511 t384 t384 t368, b3 g520 t517 2] (World.setCell w525 ⟨g191, 7, none⟩ (.int .i64 t523)) := (HS.out).set1 (l1 := [b1 g31 a27 a28 a29 a30, b2 g34 0 0 0 0 0 0 0 0]) (l2 := [b4 g511 t384 t384 t368, b3 g520 t517 2]) 7 (.int .i64 t523)
        have HS_ : Aside0 (Sep (fps []) w [b1 g31 a27 a28 a29 a30, b2 g34 0 0 0 0 0 0 0 0, b2 g191 t188 (wrap64 (a28 - 8)) (wrap64 ((wrap64 (a28 - 8)) + 1)) t357 t384 t368 t427 t523, b4 g511 t384 t384 t368, b3 g520 t517 2] w526) := ⟨by rw [hst]; exact hq0⟩
        clear hq0
        clear HS hst
        have HS := HS_
        clear HS_
        refine hK.out _ _ (⟨blk_cellv (HS.out.at2) 4 rfl, blk_cellv (HS.out.at2) 5 rfl, blk_cellv (HS.out.at0) 3 rfl⟩) (fun hHeld => ?_)
        clear hK K
        refine done_ (by kernel_rfl) ?_
        replace HS : Aside0 (Sep (fps []) w [b2 g34 0 0 0 0 0 0 0 0, b2 g191 t188 (wrap64 (a28 - 8)) (wrap64 ((wrap64 (a28 - 8)) + 1)) t357 t384 t368 t427 t523] w526) := ⟨HS.out.sub (.cons _ (.cons_cons _ (.cons_cons _ (.cons _ (.cons _ .slnil)))))⟩
        have hc529 : w526.cell? ⟨g191, 0, none⟩ = some (.int .i64 t188) := blk_cellv (HS.out.at1) 0 rfl
        have hc530 : w526.cell? ⟨g191, 1, none⟩ = some (.int .i64 (wrap64 (a28 - 8))) := blk_cellv (HS.out.at1) 1 rfl
        have hc531 : w526.cell? ⟨g191, 2, none⟩ = some (.int .i64 (wrap64 ((wrap64 (a28 - 8)) + 1))) := blk_cellv (HS.out.at1) 2 rfl
        have hc532 : w526.cell? ⟨g191, 3, none⟩ = some (.int .i64 t357) := blk_cellv (HS.out.at1) 3 rfl
        have hc533 : w526.cell? ⟨g191, 4, none⟩ = some (.int .i64 t384) := blk_cellv (HS.out.at1) 4 rfl
        have hc534 : w526.cell? ⟨g191, 5, none⟩ = some (.int .i64 t368) := blk_cellv (HS.out.at1) 5 rfl
        have hc535 : w526.cell? ⟨g191, 6, none⟩ = some (.int .i64 t427) := blk_cellv (HS.out.at1) 6 rfl
        have hc536 : w526.cell? ⟨g191, 7, none⟩ = some (.int .i64 t523) := blk_cellv (HS.out.at1) 7 rfl
        have hc537 : w526.cell? ⟨g34, 0, none⟩ = some (.int .i64 0) := blk_cellv (HS.out.at0) 0 rfl
        have hz538 : w526.frozen? ⟨g34, 0, none⟩ = false := blk_fz (HS.out.at0) 0
        have hc539 : w526.cell? ⟨g34, 1, none⟩ = some (.int .i64 0) := blk_cellv (HS.out.at0) 1 rfl
        have hz540 : w526.frozen? ⟨g34, 1, none⟩ = false := blk_fz (HS.out.at0) 1
        have hc541 : w526.cell? ⟨g34, 2, none⟩ = some (.int .i64 0) := blk_cellv (HS.out.at0) 2 rfl
        have hz542 : w526.frozen? ⟨g34, 2, none⟩ = false := blk_fz (HS.out.at0) 2
        have hc543 : w526.cell? ⟨g34, 3, none⟩ = some (.int .i64 0) := blk_cellv (HS.out.at0) 3 rfl
        have hz544 : w526.frozen? ⟨g34, 3, none⟩ = false := blk_fz (HS.out.at0) 3
        have hc545 : w526.cell? ⟨g34, 4, none⟩ = some (.int .i64 0) := blk_cellv (HS.out.at0) 4 rfl
        have hz546 : w526.frozen? ⟨g34, 4, none⟩ = false := blk_fz (HS.out.at0) 4
        have hc547 : w526.cell? ⟨g34, 5, none⟩ = some (.int .i64 0) := blk_cellv (HS.out.at0) 5 rfl
        have hz548 : w526.frozen? ⟨g34, 5, none⟩ = false := blk_fz (HS.out.at0) 5
        have hc549 : w526.cell? ⟨g34, 6, none⟩ = some (.int .i64 0) := blk_cellv (HS.out.at0) 6 rfl
        have hz550 : w526.frozen? ⟨g34, 6, none⟩ = false := blk_fz (HS.out.at0) 6
        have hc551 : w526.cell? ⟨g34, 7, none⟩ = some (.int .i64 0) := blk_cellv (HS.out.at0) 7 rfl
        have hz552 : w526.frozen? ⟨g34, 7, none⟩ = false := blk_fz (HS.out.at0) 7
        go_wp2_with (first | ((with_reducible refine gate_store (t := 120) (p := 2) rfl ?_); refine store_event (w1 := (World.setCell (World.setCell (World.setCell (World.setCell (World.setCell (World.setCell (World.setCell (World.setCell w526 ⟨g34, 0, none⟩ (.int .i64 t188)) ⟨g34, 1, none⟩ (.int .i64 (wrap64 (a28 - 8)))) ⟨g34, 2, none⟩ (.int .i64 (wrap64 ((wrap64 (a28 - 8)) + 1)))) ⟨g34, 3, none⟩ (.int .i64 t357)) ⟨g34, 4, none⟩ (.int .i64 t384)) ⟨g34, 5, none⟩ (.int .i64 t368)) ⟨g34, 6, none⟩ (.int .i64 t427)) ⟨g34, 7, none⟩ (.int .i64 t523))) rfl (t := 120) (p := 2) rfl rfl ?hr ?_; (case hr => first | (go_simp; done) | (go_simp; rfl)); intro w553 hst; clear hc529 hc530 hc531 hc532 hc533 hc534 hc535 hc536 hc537 hz538 hc539 hz540 hc541 hz542 hc543 hz544 hc545 hz546 hc547 hz548 hc549 hz550 hc551 hz552; replace HS : Aside0 (Sep (fps []) w [b2 g34 t188 (wrap64 (a28 - 8)) (wrap64 ((wrap64 (a28 - 8)) + 1)) t357 t384 t368 t427 t523, b2 g191 t188 (wrap64 (a28 - 8)) (wrap64 ((wrap64 (a28 - 8)) + 1)) t357 t384 t368 t427 t523] w553) := ⟨by rw [hst]; exact HS.out.setAll (l1 := []) (l2 := [b2 g191 t188 (wrap64 (a28 - 8)) (wrap64 ((wrap64 (a28 - 8)) + 1)) t357 t384 t368 t427 t523]) [.int .i64 t188, .int .i64 (wrap64 (a28 - 8)), .int .i64 (wrap64 ((wrap64 (a28 - 8)) + 1)), .int .i64 t357, .int .i64 t384, .int .i64 t368, .int .i64 t427, .int .i64 t523] rfl⟩; clear hst; replace HS : Aside0 (Sep (fps []) w [b2 g34 t188 (wrap64 (a28 - 8)) (wrap64 ((wrap64 (a28 - 8)) + 1)) t357 t384 t368 t427 t523] w553) := ⟨HS.out.sub (.cons_cons _ (.cons _ .slnil))⟩))
        have hc554 : w553.cell? ⟨g34, 0, none⟩ = some (.int .i64 t188) := blk_cellv (HS.out.at0) 0 rfl
        have hc555 : w553.cell? ⟨g34, 1, none⟩ = some (.int .i64 (wrap64 (a28 - 8))) := blk_cellv (HS.out.at0) 1 rfl
        have hc556 : w553.cell? ⟨g34, 2, none⟩ = some (.int .i64 (wrap64 ((wrap64 (a28 - 8)) + 1))) := blk_cellv (HS.out.at0) 2 rfl
        have hc557 : w553.cell? ⟨g34, 3, none⟩ = some (.int .i64 t357) := blk_cellv (HS.out.at0) 3 rfl
        have hc558 : w553.cell? ⟨g34, 4, none⟩ = some (.int .i64 t384) := blk_cellv (HS.out.at0) 4 rfl
        have hc559 : w553.cell? ⟨g34, 5, none⟩ = some (.int .i64 t368) := blk_cellv (HS.out.at0) 5 rfl
        have hc560 : w553.cell? ⟨g34, 6, none⟩ = some (.int .i64 t427) := blk_cellv (HS.out.at0) 6 rfl
        have hc561 : w553.cell? ⟨g34, 7, none⟩ = some (.int .i64 t523) := blk_cellv (HS.out.at0) 7 rfl
        refine bodyPost_ret (v := .tuple #[.agg #[.int .i64 t188, .int .i64 (wrap64 (a28 - 8)), .int .i64 (wrap64 ((wrap64 (a28 - 8)) + 1)), .int .i64 t357, .int .i64 t384, .int .i64 t368, .int .i64 t427, .int .i64 t523], .int .i64 0]) (by simp [results, Try.results76, go_sem, hc554, hc555, hc556, hc557, hc558, hc559, hc560, hc561]) rfl ?_
        rw [← some_eq H]
        exact ⟨(by first | rfl | (simp [IntKind.wrap_u32]; done)), HS.out.sub (.cons _ .slnil)⟩
  · replace H := if_no c85 H
    have c85b0 : (t82 == 0) = false := beq_eq_false_iff_ne.mpr c85
    have c85b1 : (t82 != 0) = true := bne_iff_ne.mpr c85
    clear c85
    have hc562 : w84.cell? ⟨g34, 0, none⟩ = some (.int .i64 0) := blk_cellv (HS.out.at1) 0 rfl
    have hz563 : w84.frozen? ⟨g34, 0, none⟩ = false := blk_fz (HS.out.at1) 0
    have hc564 : w84.cell? ⟨g34, 1, none⟩ = some (.int .i64 0) := blk_cellv (HS.out.at1) 1 rfl
    have hz565 : w84.frozen? ⟨g34, 1, none⟩ = false := blk_fz (HS.out.at1) 1
    have hc566 : w84.cell? ⟨g34, 2, none⟩ = some (.int .i64 0) := blk_cellv (HS.out.at1) 2 rfl
    have hz567 : w84.frozen? ⟨g34, 2, none⟩ = false := blk_fz (HS.out.at1) 2
    have hc568 : w84.cell? ⟨g34, 3, none⟩ = some (.int .i64 0) := blk_cellv (HS.out.at1) 3 rfl
    have hz569 : w84.frozen? ⟨g34, 3, none⟩ = false := blk_fz (HS.out.at1) 3
    have hc570 : w84.cell? ⟨g34, 4, none⟩ = some (.int .i64 0) := blk_cellv (HS.out.at1) 4 rfl
    have hz571 : w84.frozen? ⟨g34, 4, none⟩ = false := blk_fz (HS.out.at1) 4
    have hc572 : w84.cell? ⟨g34, 5, none⟩ = some (.int .i64 0) := blk_cellv (HS.out.at1) 5 rfl
    have hz573 : w84.frozen? ⟨g34, 5, none⟩ = false := blk_fz (HS.out.at1) 5
    have hc574 : w84.cell? ⟨g34, 6, none⟩ = some (.int .i64 0) := blk_cellv (HS.out.at1) 6 rfl
    have hz575 : w84.frozen? ⟨g34, 6, none⟩ = false := blk_fz (HS.out.at1) 6
    have hc576 : w84.cell? ⟨g34, 7, none⟩ = some (.int .i64 0) := blk_cellv (HS.out.at1) 7 rfl
    have hz577 : w84.frozen? ⟨g34, 7, none⟩ = false := blk_fz (HS.out.at1) 7
    go_wp2_with (first | ((with_reducible refine gate_store (t := 120) (p := 2) rfl ?_); refine store_event (w1 := (World.setCell (World.setCell (World.setCell (World.setCell (World.setCell (World.setCell (World.setCell (World.setCell w84 ⟨g34, 0, none⟩ (.int .i64 0)) ⟨g34, 1, none⟩ (.int .i64 0)) ⟨g34, 2, none⟩ (.int .i64 0)) ⟨g34, 3, none⟩ (.int .i64 0)) ⟨g34, 4, none⟩ (.int .i64 0)) ⟨g34, 5, none⟩ (.int .i64 0)) ⟨g34, 6, none⟩ (.int .i64 0)) ⟨g34, 7, none⟩ (.int .i64 0))) rfl (t := 120) (p := 2) rfl rfl ?hr ?_; (case hr => first | (go_simp; done) | (go_simp; rfl)); intro w578 hst; clear hc562 hz563 hc564 hz565 hc566 hz567 hc568 hz569 hc570 hz571 hc572 hz573 hc574 hz575 hc576 hz577; replace HS : Aside0 (Sep (fps []) w [b1 g31 a27 a28 a29 a30, b2 g34 0 0 0 0 0 0 0 0] w578) := ⟨by rw [hst]; exact HS.out.setAll (l1 := [b1 g31 a27 a28 a29 a30]) (l2 := []) [.int .i64 0, .int .i64 0, .int .i64 0, .int .i64 0, .int .i64 0, .int .i64 0, .int .i64 0, .int .i64 0] rfl⟩; clear hst; replace HS : Aside0 (Sep (fps []) w [b2 g34 0 0 0 0 0 0 0 0] w578) := ⟨HS.out.sub (.cons _ (.cons_cons _ .slnil))⟩))
    have hc579 : w578.cell? ⟨g34, 0, none⟩ = some (.int .i64 0) := blk_cellv (HS.out.at0) 0 rfl
    have hc580 : w578.cell? ⟨g34, 1, none⟩ = some (.int .i64 0) := blk_cellv (HS.out.at0) 1 rfl
    have hc581 : w578.cell? ⟨g34, 2, none⟩ = some (.int .i64 0) := blk_cellv (HS.out.at0) 2 rfl
    have hc582 : w578.cell? ⟨g34, 3, none⟩ = some (.int .i64 0) := blk_cellv (HS.out.at0) 3 rfl
    have hc583 : w578.cell? ⟨g34, 4, none⟩ = some (.int .i64 0) := blk_cellv (HS.out.at0) 4 rfl
    have hc584 : w578.cell? ⟨g34, 5, none⟩ = some (.int .i64 0) := blk_cellv (HS.out.at0) 5 rfl
    have hc585 : w578.cell? ⟨g34, 6, none⟩ = some (.int .i64 0) := blk_cellv (HS.out.at0) 6 rfl
    have hc586 : w578.cell? ⟨g34, 7, none⟩ = some (.int .i64 0) := blk_cellv (HS.out.at0) 7 rfl
    refine bodyPost_ret (v := .tuple #[.agg #[.int .i64 0, .int .i64 0, .int .i64 0, .int .i64 0, .int .i64 0, .int .i64 0, .int .i64 0, .int .i64 0], .int .i64 t82]) (by simp [results, Try.results76, go_sem, hc579, hc580, hc581, hc582, hc583, hc584, hc585, hc586]) rfl ?_
    rw [← some_eq H]
    exact ⟨(by first | rfl | (simp [IntKind.wrap_u32]; done)), HS.out.sub (.cons _ .slnil)⟩

set_option maxHeartbeats 30000000 in
set_option maxRecDepth 100000 in
theorem store_New.calls (a612 : Int) (r : Unit ⊕ (List Int)) (w : World)   (HS : Aside0 (Sep (fps []) w [] w)) (H : Aside0 (store_New.f a612 = some r)) :
    Calls Try.prog 17 #[.int .i64 a612] w fun e w' => Sum.elim (fun (r : Unit) => e = .returned (.tuple #[.pointer none, .int .i64 2]) ∧ Sep (fps []) w [] w') (fun (r : List Int) => ∃ (g648 : Nat), e = .returned (.tuple #[.pointer (some ⟨g648, 0, none⟩), .int .i64 0]) ∧ ∃ (A649 : Option Addr) (m650 : Nat) (n651 : Nat), Sep (fps []) w [b6 g648 A649 m650 n651 0, r5 A649 m650 n651 r] w') r := by
  unfold store_New.f at H
  go_enter Try.func17, Try.ntmps17
  by_cases c626 : a612 < 0
  · replace H := if_yes c626 H
    have c626b0 : decide (a612 < 0) = true := decide_eq_true c626
    clear c626
    go_wp2_with fail
    go_ret2
    rw [← some_eq H]
    exact ⟨(by first | rfl | (simp [IntKind.wrap_u32]; done)), HS.out⟩
  · replace H := if_no c626 H
    have c626b0 : decide (a612 < 0) = false := decide_eq_false c626
    clear c626
    by_cases c627 : a612 > 8388608
    · replace H := if_yes c627 H
      have c627b0 : decide (8388608 < a612) = true := decide_eq_true c627
      clear c627
      go_wp2_with fail
      go_ret2
      rw [← some_eq H]
      exact ⟨(by first | rfl | (simp [IntKind.wrap_u32]; done)), HS.out⟩
    · replace H := if_no c627 H
      have c627b0 : decide (8388608 < a612) = false := decide_eq_false c627
      clear c627
      obtain ⟨m628, HA629, H⟩ := bind_some H
      obtain ⟨hm630, hn631⟩ := mkLen_eq HA629
      have hm630H := Aside0.mk hm630
      clear hm630
      go_wp2_with (first | ((with_reducible refine gate_dst (N := 11) rfl ?_); refine make_event rfl (N := 11) rfl 22 23 (.tmp 10) (.tmp 10) rfl .i64 (.int .u32 0) 4 Try.underlying22 (by kernel_rfl) rfl (by decide) (Value.int .u32) 0 rfl m628 (by show Value.int _ _ = _; rw [hm630H.out]) (by show Value.int _ _ = _; rw [hm630H.out]) (by omega) HS.out ?_; intro g632 w633 HS1; replace HS : Aside0 (Sep (fps []) w [r5 (some ⟨g632, 0, none⟩) m628 m628 (List.replicate m628 (0 : Int))] w633) := ⟨HS1⟩; clear HS1) | ((with_reducible refine gate_dst (N := 13) rfl ?_); refine box_on ?hg (N := 13) ?hd (cs := #[.slice (some ⟨g632, 0, none⟩) m628 m628, .int .u64 0]) (t := 115) ?hr ?_; (case hd => rfl); (case hg => rfl); (case hr => first | (go_simp; done) | (go_simp; rfl)); intro g636 hg w637 hbox hb; replace HS : Aside0 (Sep (fps []) w [r5 (some ⟨g632, 0, none⟩) m628 m628 (List.replicate m628 (0 : Int)), b6 g636 (some ⟨g632, 0, none⟩) m628 m628 0] w637) := ⟨HS.out.box hg hbox hb⟩; clear hg hbox hb))
      go_ret2
      rw [← some_eq H]
      exact ⟨g636, (by first | rfl | (simp [IntKind.wrap_u32]; done)), (some ⟨g632, 0, none⟩), m628, m628, ((HS.out).front 1 (by simp)).keep (l := [b6 g636 (some ⟨g632, 0, none⟩) m628 m628 0, r5 (some ⟨g632, 0, none⟩) m628 m628 (List.replicate m628 (0 : Int))]) (rest := [])⟩

set_option maxHeartbeats 30000000 in
set_option maxRecDepth 100000 in
theorem ground_New.calls (k : Nat) (a16 : Int) (a17 : Int) (a18 : Int) (a19 : Int) (r : Unit ⊕ ((Int × Int × Int × Int × List Int) ⊕ Int)) (w : World)   (HS : Aside0 (Sep (fps []) w [] w)) (H : Aside0 (ground_New.f k a16 a17 a18 a19 = some r)) :
    Calls Try.prog 29 #[.agg #[.int .i64 a16, .int .i64 a17, .int .i64 a18, .int .i64 a19]] w fun e w' => Sum.elim (fun (r : Unit) => e = .returned (.tuple #[.pointer none, .int .i64 2]) ∧ Sep (fps []) w [] w') (fun (r_ : (Int × Int × Int × Int × List Int) ⊕ Int) => Sum.elim (fun (r : Int × Int × Int × Int × List Int) => ∃ (g798 : Nat), e = .returned (.tuple #[.pointer (some ⟨g798, 0, none⟩), .int .i64 0]) ∧ ∃ (g799 : Nat) (A800 : Option Addr) (m801 : Nat) (n802 : Nat), Sep (fps []) w [b7 g798 g799 r.1 r.2.1 r.2.2.1 r.2.2.2.1, b6 g799 A800 m801 n802 0, r5 A800 m801 n802 r.2.2.2.2] w') (fun (r : Int) => e = .returned (.tuple #[.pointer none, .int .i64 r]) ∧ Sep (fps []) w [] w') r_) r := by
  unfold ground_New.f at H
  go_enter Try.func29, Try.ntmps29
  go_wp2_with (first | ((with_reducible refine gate_dst (N := 1) rfl ?_); refine box_on ?hg (N := 1) ?hd (cs := #[.int .i64 a16, .int .i64 a17, .int .i64 a18, .int .i64 a19]) (t := 49) ?hr ?_; (case hd => rfl); (case hg => rfl); (case hr => first | (go_simp; done) | (go_simp; rfl)); intro g734 hg w735 hbox hb; replace HS : Aside0 (Sep (fps []) w [b1 g734 a16 a17 a18 a19] w735) := ⟨HS.out.box hg hbox hb⟩; clear hg hbox hb; have hc737 : w735.cell? ⟨g734, 0, none⟩ = some (.int .i64 a16) := blk_cellv (HS.out.at0) 0 rfl; have hc738 : w735.cell? ⟨g734, 1, none⟩ = some (.int .i64 a17) := blk_cellv (HS.out.at0) 1 rfl; have hc739 : w735.cell? ⟨g734, 2, none⟩ = some (.int .i64 a18) := blk_cellv (HS.out.at0) 2 rfl; have hc740 : w735.cell? ⟨g734, 3, none⟩ = some (.int .i64 a19) := blk_cellv (HS.out.at0) 3 rfl))
  clear hc737 hc738 hc739 hc740
  obtain ⟨t741, HA742, H⟩ := bind_some H
  refine (plan_Of.calls _ a16 a17 a18 a19 t741 _ ⟨Sep.start _⟩ HA742).mono ?_
  rintro e_ w743 ⟨rfl, hS⟩
  replace HS : Aside0 (Sep (fps []) w [b1 g734 a16 a17 a18 a19] w743) := ⟨HS.out.call hS⟩
  clear hS
  by_cases c764 : t741.2.2.2.2.2.2.2.2 = 0
  · replace H := if_yes c764 H
    have c764b0 : (t741.2.2.2.2.2.2.2.2 == 0) = true := beq_iff_eq.mpr c764
    have c764b1 : (t741.2.2.2.2.2.2.2.2 != 0) = false := bne_eq_false_iff_eq.mpr c764
    clear c764
    go_wp2_with (first | ((with_reducible refine gate_dst (N := 4) rfl ?_); refine box_on ?hg (N := 4) ?hd (cs := #[.int .i64 0, .int .i64 0, .int .i64 0, .int .i64 0, .int .i64 0, .int .i64 0, .int .i64 0, .int .i64 0]) (t := 120) ?hr ?_; (case hd => rfl); (case hg => rfl); (case hr => first | (go_simp; done) | (go_simp; rfl)); intro g744 hg w745 hbox hb; replace HS : Aside0 (Sep (fps []) w [b1 g734 a16 a17 a18 a19, b2 g744 0 0 0 0 0 0 0 0] w745) := ⟨HS.out.box hg hbox hb⟩; clear hg hbox hb; have hc747 : w745.cell? ⟨g744, 0, none⟩ = some (.int .i64 0) := blk_cellv (HS.out.at1) 0 rfl; have hz748 : w745.frozen? ⟨g744, 0, none⟩ = false := blk_fz (HS.out.at1) 0; have hc749 : w745.cell? ⟨g744, 1, none⟩ = some (.int .i64 0) := blk_cellv (HS.out.at1) 1 rfl; have hz750 : w745.frozen? ⟨g744, 1, none⟩ = false := blk_fz (HS.out.at1) 1; have hc751 : w745.cell? ⟨g744, 2, none⟩ = some (.int .i64 0) := blk_cellv (HS.out.at1) 2 rfl; have hz752 : w745.frozen? ⟨g744, 2, none⟩ = false := blk_fz (HS.out.at1) 2; have hc753 : w745.cell? ⟨g744, 3, none⟩ = some (.int .i64 0) := blk_cellv (HS.out.at1) 3 rfl; have hz754 : w745.frozen? ⟨g744, 3, none⟩ = false := blk_fz (HS.out.at1) 3; have hc755 : w745.cell? ⟨g744, 4, none⟩ = some (.int .i64 0) := blk_cellv (HS.out.at1) 4 rfl; have hz756 : w745.frozen? ⟨g744, 4, none⟩ = false := blk_fz (HS.out.at1) 4; have hc757 : w745.cell? ⟨g744, 5, none⟩ = some (.int .i64 0) := blk_cellv (HS.out.at1) 5 rfl; have hz758 : w745.frozen? ⟨g744, 5, none⟩ = false := blk_fz (HS.out.at1) 5; have hc759 : w745.cell? ⟨g744, 6, none⟩ = some (.int .i64 0) := blk_cellv (HS.out.at1) 6 rfl; have hz760 : w745.frozen? ⟨g744, 6, none⟩ = false := blk_fz (HS.out.at1) 6; have hc761 : w745.cell? ⟨g744, 7, none⟩ = some (.int .i64 0) := blk_cellv (HS.out.at1) 7 rfl; have hz762 : w745.frozen? ⟨g744, 7, none⟩ = false := blk_fz (HS.out.at1) 7) | ((with_reducible refine gate_store (t := 120) (p := 4) rfl ?_); refine store_event (w1 := (World.setCell (World.setCell (World.setCell (World.setCell (World.setCell (World.setCell (World.setCell (World.setCell w745 ⟨g744, 0, none⟩ (.int .i64 t741.1)) ⟨g744, 1, none⟩ (.int .i64 t741.2.1)) ⟨g744, 2, none⟩ (.int .i64 t741.2.2.1)) ⟨g744, 3, none⟩ (.int .i64 t741.2.2.2.1)) ⟨g744, 4, none⟩ (.int .i64 t741.2.2.2.2.1)) ⟨g744, 5, none⟩ (.int .i64 t741.2.2.2.2.2.1)) ⟨g744, 6, none⟩ (.int .i64 t741.2.2.2.2.2.2.1)) ⟨g744, 7, none⟩ (.int .i64 t741.2.2.2.2.2.2.2.1))) rfl (t := 120) (p := 4) rfl rfl ?hr ?_; (case hr => first | (go_simp; done) | (go_simp; rfl)); intro w763 hst; clear hc747 hz748 hc749 hz750 hc751 hz752 hc753 hz754 hc755 hz756 hc757 hz758 hc759 hz760 hc761 hz762; replace HS : Aside0 (Sep (fps []) w [b1 g734 a16 a17 a18 a19, b2 g744 t741.1 t741.2.1 t741.2.2.1 t741.2.2.2.1 t741.2.2.2.2.1 t741.2.2.2.2.2.1 t741.2.2.2.2.2.2.1 t741.2.2.2.2.2.2.2.1] w763) := ⟨by rw [hst]; exact HS.out.setAll (l1 := [b1 g734 a16 a17 a18 a19]) (l2 := []) [.int .i64 t741.1, .int .i64 t741.2.1, .int .i64 t741.2.2.1, .int .i64 t741.2.2.2.1, .int .i64 t741.2.2.2.2.1, .int .i64 t741.2.2.2.2.2.1, .int .i64 t741.2.2.2.2.2.2.1, .int .i64 t741.2.2.2.2.2.2.2.1] rfl⟩; clear hst; have hc765 : w763.cell? ⟨g744, 0, none⟩ = some (.int .i64 t741.1) := blk_cellv (HS.out.at1) 0 rfl))
    clear hc765
    obtain ⟨t766, HA767, H⟩ := bind_some H
    rcases t766 with t768 | t769
    · have H := sum_l H
      refine (store_New.calls t741.1 (.inl t768) _ ⟨Sep.start _⟩ HA767).mono ?_
      rintro e_ w770 ⟨rfl, hS⟩
      replace HS : Aside0 (Sep (fps []) w [b1 g734 a16 a17 a18 a19, b2 g744 t741.1 t741.2.1 t741.2.2.1 t741.2.2.2.1 t741.2.2.2.2.1 t741.2.2.2.2.2.1 t741.2.2.2.2.2.2.1 t741.2.2.2.2.2.2.2.1] w770) := ⟨HS.out.call hS⟩
      clear hS
      replace HS : Aside0 (Sep (fps []) w [b1 g734 a16 a17 a18 a19] w770) := ⟨HS.out.sub (.cons_cons _ (.cons _ .slnil))⟩
      replace HS : Aside0 (Sep (fps []) w [] w770) := ⟨HS.out.sub (.cons _ .slnil)⟩
      go_wp2_with fail
      go_ret2
      rw [← some_eq H]
      exact ⟨(by first | rfl | (simp [IntKind.wrap_u32]; done)), HS.out⟩
    · have H := sum_r H
      refine (store_New.calls t741.1 (.inr t769) _ ⟨Sep.start _⟩ HA767).mono ?_
      rintro e_ w771 ⟨g774, rfl, A775, m776, n777, hS⟩
      replace HS : Aside0 (Sep (fps []) w [b6 g774 A775 m776 n777 0, r5 A775 m776 n777 t769, b1 g734 a16 a17 a18 a19, b2 g744 t741.1 t741.2.1 t741.2.2.1 t741.2.2.2.1 t741.2.2.2.2.1 t741.2.2.2.2.2.1 t741.2.2.2.2.2.2.1 t741.2.2.2.2.2.2.2.1] w771) := ⟨HS.out.call hS⟩
      clear hS
      obtain rfl := (row_len (HS.out.at1)).symm
      replace HS : Aside0 (Sep (fps []) w [b6 g774 A775 t769.length n777 0, r5 A775 t769.length n777 t769, b1 g734 a16 a17 a18 a19] w771) := ⟨HS.out.sub (.cons_cons _ (.cons_cons _ (.cons_cons _ (.cons _ .slnil))))⟩
      have hc779 : w771.cell? ⟨g734, 0, none⟩ = some (.int .i64 a16) := blk_cellv (HS.out.at2) 0 rfl
      have hc780 : w771.cell? ⟨g734, 1, none⟩ = some (.int .i64 a17) := blk_cellv (HS.out.at2) 1 rfl
      have hc781 : w771.cell? ⟨g734, 2, none⟩ = some (.int .i64 a18) := blk_cellv (HS.out.at2) 2 rfl
      have hc782 : w771.cell? ⟨g734, 3, none⟩ = some (.int .i64 a19) := blk_cellv (HS.out.at2) 3 rfl
      go_wp2_with (first | ((with_reducible refine gate_dst (N := 28) rfl ?_); refine box_on ?hg (N := 28) ?hd (cs := #[.pointer (some ⟨g774, 0, none⟩), .int .i64 a16, .int .i64 a17, .int .i64 a18, .int .i64 a19]) (t := 126) ?hr ?_; (case hd => rfl); (case hg => rfl); (case hr => first | (go_simp; done) | (go_simp; rfl)); intro g783 hg w784 hbox hb; clear hc779 hc780 hc781 hc782; replace HS : Aside0 (Sep (fps []) w [b6 g774 A775 t769.length n777 0, r5 A775 t769.length n777 t769, b1 g734 a16 a17 a18 a19, b7 g783 g774 a16 a17 a18 a19] w784) := ⟨HS.out.box hg hbox hb⟩; clear hg hbox hb; replace HS : Aside0 (Sep (fps []) w [b6 g774 A775 t769.length n777 0, r5 A775 t769.length n777 t769, b7 g783 g774 a16 a17 a18 a19] w784) := ⟨HS.out.sub (.cons_cons _ (.cons_cons _ (.cons _ (.cons_cons _ .slnil))))⟩))
      go_ret2
      rw [← some_eq H]
      exact ⟨g783, (by first | rfl | (simp [IntKind.wrap_u32]; done)), g774, A775, t769.length, n777, ((((HS.out).front 1 (by simp)).front 1 (by simp)).front 2 (by simp)).keep (l := [b7 g783 g774 a16 a17 a18 a19, b6 g774 A775 t769.length n777 0, r5 A775 t769.length n777 t769]) (rest := [])⟩
  · replace H := if_no c764 H
    have c764b0 : (t741.2.2.2.2.2.2.2.2 == 0) = false := beq_eq_false_iff_ne.mpr c764
    have c764b1 : (t741.2.2.2.2.2.2.2.2 != 0) = true := bne_iff_ne.mpr c764
    clear c764
    go_wp2_with (first | ((with_reducible refine gate_dst (N := 4) rfl ?_); refine box_on ?hg (N := 4) ?hd (cs := #[.int .i64 0, .int .i64 0, .int .i64 0, .int .i64 0, .int .i64 0, .int .i64 0, .int .i64 0, .int .i64 0]) (t := 120) ?hr ?_; (case hd => rfl); (case hg => rfl); (case hr => first | (go_simp; done) | (go_simp; rfl)); intro g744 hg w745 hbox hb; replace HS : Aside0 (Sep (fps []) w [b1 g734 a16 a17 a18 a19, b2 g744 0 0 0 0 0 0 0 0] w745) := ⟨HS.out.box hg hbox hb⟩; clear hg hbox hb; have hc747 : w745.cell? ⟨g744, 0, none⟩ = some (.int .i64 0) := blk_cellv (HS.out.at1) 0 rfl; have hz748 : w745.frozen? ⟨g744, 0, none⟩ = false := blk_fz (HS.out.at1) 0; have hc749 : w745.cell? ⟨g744, 1, none⟩ = some (.int .i64 0) := blk_cellv (HS.out.at1) 1 rfl; have hz750 : w745.frozen? ⟨g744, 1, none⟩ = false := blk_fz (HS.out.at1) 1; have hc751 : w745.cell? ⟨g744, 2, none⟩ = some (.int .i64 0) := blk_cellv (HS.out.at1) 2 rfl; have hz752 : w745.frozen? ⟨g744, 2, none⟩ = false := blk_fz (HS.out.at1) 2; have hc753 : w745.cell? ⟨g744, 3, none⟩ = some (.int .i64 0) := blk_cellv (HS.out.at1) 3 rfl; have hz754 : w745.frozen? ⟨g744, 3, none⟩ = false := blk_fz (HS.out.at1) 3; have hc755 : w745.cell? ⟨g744, 4, none⟩ = some (.int .i64 0) := blk_cellv (HS.out.at1) 4 rfl; have hz756 : w745.frozen? ⟨g744, 4, none⟩ = false := blk_fz (HS.out.at1) 4; have hc757 : w745.cell? ⟨g744, 5, none⟩ = some (.int .i64 0) := blk_cellv (HS.out.at1) 5 rfl; have hz758 : w745.frozen? ⟨g744, 5, none⟩ = false := blk_fz (HS.out.at1) 5; have hc759 : w745.cell? ⟨g744, 6, none⟩ = some (.int .i64 0) := blk_cellv (HS.out.at1) 6 rfl; have hz760 : w745.frozen? ⟨g744, 6, none⟩ = false := blk_fz (HS.out.at1) 6; have hc761 : w745.cell? ⟨g744, 7, none⟩ = some (.int .i64 0) := blk_cellv (HS.out.at1) 7 rfl; have hz762 : w745.frozen? ⟨g744, 7, none⟩ = false := blk_fz (HS.out.at1) 7) | ((with_reducible refine gate_store (t := 120) (p := 4) rfl ?_); refine store_event (w1 := (World.setCell (World.setCell (World.setCell (World.setCell (World.setCell (World.setCell (World.setCell (World.setCell w745 ⟨g744, 0, none⟩ (.int .i64 t741.1)) ⟨g744, 1, none⟩ (.int .i64 t741.2.1)) ⟨g744, 2, none⟩ (.int .i64 t741.2.2.1)) ⟨g744, 3, none⟩ (.int .i64 t741.2.2.2.1)) ⟨g744, 4, none⟩ (.int .i64 t741.2.2.2.2.1)) ⟨g744, 5, none⟩ (.int .i64 t741.2.2.2.2.2.1)) ⟨g744, 6, none⟩ (.int .i64 t741.2.2.2.2.2.2.1)) ⟨g744, 7, none⟩ (.int .i64 t741.2.2.2.2.2.2.2.1))) rfl (t := 120) (p := 4) rfl rfl ?hr ?_; (case hr => first | (go_simp; done) | (go_simp; rfl)); intro w763 hst; clear hc747 hz748 hc749 hz750 hc751 hz752 hc753 hz754 hc755 hz756 hc757 hz758 hc759 hz760 hc761 hz762; replace HS : Aside0 (Sep (fps []) w [b1 g734 a16 a17 a18 a19, b2 g744 t741.1 t741.2.1 t741.2.2.1 t741.2.2.2.1 t741.2.2.2.2.1 t741.2.2.2.2.2.1 t741.2.2.2.2.2.2.1 t741.2.2.2.2.2.2.2.1] w763) := ⟨by rw [hst]; exact HS.out.setAll (l1 := [b1 g734 a16 a17 a18 a19]) (l2 := []) [.int .i64 t741.1, .int .i64 t741.2.1, .int .i64 t741.2.2.1, .int .i64 t741.2.2.2.1, .int .i64 t741.2.2.2.2.1, .int .i64 t741.2.2.2.2.2.1, .int .i64 t741.2.2.2.2.2.2.1, .int .i64 t741.2.2.2.2.2.2.2.1] rfl⟩; clear hst; replace HS : Aside0 (Sep (fps []) w [] w763) := ⟨HS.out.sub (.cons _ (.cons _ .slnil))⟩))
    go_ret2
    rw [← some_eq H]
    exact ⟨(by first | rfl | (simp [IntKind.wrap_u32]; done)), HS.out⟩

set_option maxHeartbeats 30000000 in
set_option maxRecDepth 100000 in
theorem quitrentref03_May.calls (a814 : Int) (a815 : Int) (a816 : Int) (a817 : Int) (r : Bool) (w : World)   (HS : Aside0 (Sep (fps []) w [] w)) (H : Aside0 (quitrentref03_May.f a814 a815 a816 a817 = some r)) :
    Calls Try.prog 30 #[.agg #[.int .i64 a814, .int .i64 a815, .int .i64 a816, .int .i64 a817]] w fun e w' => e = .returned (.bool r) ∧ Sep (fps []) w [] w' := by
  unfold quitrentref03_May.f at H
  go_enter Try.func30, Try.ntmps30
  by_cases c822 : a814 < 1
  · replace H := if_yes c822 H
    have c822b0 : decide (a814 < 1) = true := decide_eq_true c822
    clear c822
    go_wp2_with (first | ((with_reducible refine gate_dst (N := 1) rfl ?_); refine box_on ?hg (N := 1) ?hd (cs := #[.int .i64 a814, .int .i64 a815, .int .i64 a816, .int .i64 a817]) (t := 49) ?hr ?_; (case hd => rfl); (case hg => rfl); (case hr => first | (go_simp; done) | (go_simp; rfl)); intro g818 hg w819 hbox hb; replace HS : Aside0 (Sep (fps []) w [b1 g818 a814 a815 a816 a817] w819) := ⟨HS.out.box hg hbox hb⟩; clear hg hbox hb; have hc821 : w819.cell? ⟨g818, 0, none⟩ = some (.int .i64 a814) := blk_cellv (HS.out.at0) 0 rfl; replace HS : Aside0 (Sep (fps []) w [] w819) := ⟨HS.out.sub (.cons _ .slnil)⟩))
    clear hc821
    go_ret
    rw [← some_eq H]
    exact ⟨(by first | rfl | (simp [IntKind.wrap_u32]; done)), HS.out⟩
  · replace H := if_no c822 H
    have c822b0 : decide (a814 < 1) = false := decide_eq_false c822
    clear c822
    by_cases c823 : a814 > 1048576
    · replace H := if_yes c823 H
      have c823b0 : decide (1048576 < a814) = true := decide_eq_true c823
      clear c823
      go_wp2_with (first | ((with_reducible refine gate_dst (N := 1) rfl ?_); refine box_on ?hg (N := 1) ?hd (cs := #[.int .i64 a814, .int .i64 a815, .int .i64 a816, .int .i64 a817]) (t := 49) ?hr ?_; (case hd => rfl); (case hg => rfl); (case hr => first | (go_simp; done) | (go_simp; rfl)); intro g818 hg w819 hbox hb; replace HS : Aside0 (Sep (fps []) w [b1 g818 a814 a815 a816 a817] w819) := ⟨HS.out.box hg hbox hb⟩; clear hg hbox hb; have hc821 : w819.cell? ⟨g818, 0, none⟩ = some (.int .i64 a814) := blk_cellv (HS.out.at0) 0 rfl; replace HS : Aside0 (Sep (fps []) w [] w819) := ⟨HS.out.sub (.cons _ .slnil)⟩))
      clear hc821
      go_ret
      rw [← some_eq H]
      exact ⟨(by first | rfl | (simp [IntKind.wrap_u32]; done)), HS.out⟩
    · replace H := if_no c823 H
      have c823b0 : decide (1048576 < a814) = false := decide_eq_false c823
      clear c823
      by_cases c825 : a815 < 16
      · replace H := if_yes c825 H
        have c825b0 : decide (a815 < 16) = true := decide_eq_true c825
        clear c825
        go_wp2_with (first | ((with_reducible refine gate_dst (N := 1) rfl ?_); refine box_on ?hg (N := 1) ?hd (cs := #[.int .i64 a814, .int .i64 a815, .int .i64 a816, .int .i64 a817]) (t := 49) ?hr ?_; (case hd => rfl); (case hg => rfl); (case hr => first | (go_simp; done) | (go_simp; rfl)); intro g818 hg w819 hbox hb; replace HS : Aside0 (Sep (fps []) w [b1 g818 a814 a815 a816 a817] w819) := ⟨HS.out.box hg hbox hb⟩; clear hg hbox hb; have hc821 : w819.cell? ⟨g818, 0, none⟩ = some (.int .i64 a814) := blk_cellv (HS.out.at0) 0 rfl; have hc824 : w819.cell? ⟨g818, 1, none⟩ = some (.int .i64 a815) := blk_cellv (HS.out.at0) 1 rfl; replace HS : Aside0 (Sep (fps []) w [] w819) := ⟨HS.out.sub (.cons _ .slnil)⟩))
        clear hc821 hc824
        go_ret
        rw [← some_eq H]
        exact ⟨(by first | rfl | (simp [IntKind.wrap_u32]; done)), HS.out⟩
      · replace H := if_no c825 H
        have c825b0 : decide (a815 < 16) = false := decide_eq_false c825
        clear c825
        by_cases c826 : a815 > 256
        · replace H := if_yes c826 H
          have c826b0 : decide (256 < a815) = true := decide_eq_true c826
          clear c826
          go_wp2_with (first | ((with_reducible refine gate_dst (N := 1) rfl ?_); refine box_on ?hg (N := 1) ?hd (cs := #[.int .i64 a814, .int .i64 a815, .int .i64 a816, .int .i64 a817]) (t := 49) ?hr ?_; (case hd => rfl); (case hg => rfl); (case hr => first | (go_simp; done) | (go_simp; rfl)); intro g818 hg w819 hbox hb; replace HS : Aside0 (Sep (fps []) w [b1 g818 a814 a815 a816 a817] w819) := ⟨HS.out.box hg hbox hb⟩; clear hg hbox hb; have hc821 : w819.cell? ⟨g818, 0, none⟩ = some (.int .i64 a814) := blk_cellv (HS.out.at0) 0 rfl; have hc824 : w819.cell? ⟨g818, 1, none⟩ = some (.int .i64 a815) := blk_cellv (HS.out.at0) 1 rfl; replace HS : Aside0 (Sep (fps []) w [] w819) := ⟨HS.out.sub (.cons _ .slnil)⟩))
          clear hc821 hc824
          go_ret
          rw [← some_eq H]
          exact ⟨(by first | rfl | (simp [IntKind.wrap_u32]; done)), HS.out⟩
        · replace H := if_no c826 H
          have c826b0 : decide (256 < a815) = false := decide_eq_false c826
          clear c826
          by_cases c828 : a816 < 1
          · replace H := if_yes c828 H
            have c828b0 : decide (a816 < 1) = true := decide_eq_true c828
            clear c828
            go_wp2_with (first | ((with_reducible refine gate_dst (N := 1) rfl ?_); refine box_on ?hg (N := 1) ?hd (cs := #[.int .i64 a814, .int .i64 a815, .int .i64 a816, .int .i64 a817]) (t := 49) ?hr ?_; (case hd => rfl); (case hg => rfl); (case hr => first | (go_simp; done) | (go_simp; rfl)); intro g818 hg w819 hbox hb; replace HS : Aside0 (Sep (fps []) w [b1 g818 a814 a815 a816 a817] w819) := ⟨HS.out.box hg hbox hb⟩; clear hg hbox hb; have hc821 : w819.cell? ⟨g818, 0, none⟩ = some (.int .i64 a814) := blk_cellv (HS.out.at0) 0 rfl; have hc824 : w819.cell? ⟨g818, 1, none⟩ = some (.int .i64 a815) := blk_cellv (HS.out.at0) 1 rfl; have hc827 : w819.cell? ⟨g818, 2, none⟩ = some (.int .i64 a816) := blk_cellv (HS.out.at0) 2 rfl; replace HS : Aside0 (Sep (fps []) w [] w819) := ⟨HS.out.sub (.cons _ .slnil)⟩))
            clear hc821 hc824 hc827
            go_ret
            rw [← some_eq H]
            exact ⟨(by first | rfl | (simp [IntKind.wrap_u32]; done)), HS.out⟩
          · replace H := if_no c828 H
            have c828b0 : decide (a816 < 1) = false := decide_eq_false c828
            clear c828
            by_cases c829 : a816 > 4096
            · replace H := if_yes c829 H
              have c829b0 : decide (4096 < a816) = true := decide_eq_true c829
              clear c829
              go_wp2_with (first | ((with_reducible refine gate_dst (N := 1) rfl ?_); refine box_on ?hg (N := 1) ?hd (cs := #[.int .i64 a814, .int .i64 a815, .int .i64 a816, .int .i64 a817]) (t := 49) ?hr ?_; (case hd => rfl); (case hg => rfl); (case hr => first | (go_simp; done) | (go_simp; rfl)); intro g818 hg w819 hbox hb; replace HS : Aside0 (Sep (fps []) w [b1 g818 a814 a815 a816 a817] w819) := ⟨HS.out.box hg hbox hb⟩; clear hg hbox hb; have hc821 : w819.cell? ⟨g818, 0, none⟩ = some (.int .i64 a814) := blk_cellv (HS.out.at0) 0 rfl; have hc824 : w819.cell? ⟨g818, 1, none⟩ = some (.int .i64 a815) := blk_cellv (HS.out.at0) 1 rfl; have hc827 : w819.cell? ⟨g818, 2, none⟩ = some (.int .i64 a816) := blk_cellv (HS.out.at0) 2 rfl; replace HS : Aside0 (Sep (fps []) w [] w819) := ⟨HS.out.sub (.cons _ .slnil)⟩))
              clear hc821 hc824 hc827
              go_ret
              rw [← some_eq H]
              exact ⟨(by first | rfl | (simp [IntKind.wrap_u32]; done)), HS.out⟩
            · replace H := if_no c829 H
              have c829b0 : decide (4096 < a816) = false := decide_eq_false c829
              clear c829
              by_cases c831 : a817 < 1
              · replace H := if_yes c831 H
                have c831b0 : decide (a817 < 1) = true := decide_eq_true c831
                clear c831
                go_wp2_with (first | ((with_reducible refine gate_dst (N := 1) rfl ?_); refine box_on ?hg (N := 1) ?hd (cs := #[.int .i64 a814, .int .i64 a815, .int .i64 a816, .int .i64 a817]) (t := 49) ?hr ?_; (case hd => rfl); (case hg => rfl); (case hr => first | (go_simp; done) | (go_simp; rfl)); intro g818 hg w819 hbox hb; replace HS : Aside0 (Sep (fps []) w [b1 g818 a814 a815 a816 a817] w819) := ⟨HS.out.box hg hbox hb⟩; clear hg hbox hb; have hc821 : w819.cell? ⟨g818, 0, none⟩ = some (.int .i64 a814) := blk_cellv (HS.out.at0) 0 rfl; have hc824 : w819.cell? ⟨g818, 1, none⟩ = some (.int .i64 a815) := blk_cellv (HS.out.at0) 1 rfl; have hc827 : w819.cell? ⟨g818, 2, none⟩ = some (.int .i64 a816) := blk_cellv (HS.out.at0) 2 rfl; have hc830 : w819.cell? ⟨g818, 3, none⟩ = some (.int .i64 a817) := blk_cellv (HS.out.at0) 3 rfl; replace HS : Aside0 (Sep (fps []) w [] w819) := ⟨HS.out.sub (.cons _ .slnil)⟩))
                clear hc821 hc824 hc827 hc830
                go_ret
                rw [← some_eq H]
                exact ⟨(by first | rfl | (simp [IntKind.wrap_u32]; done)), HS.out⟩
              · replace H := if_no c831 H
                have c831b0 : decide (a817 < 1) = false := decide_eq_false c831
                clear c831
                by_cases c832 : a817 > 65536
                · replace H := if_yes c832 H
                  have c832b0 : decide (65536 < a817) = true := decide_eq_true c832
                  clear c832
                  go_wp2_with (first | ((with_reducible refine gate_dst (N := 1) rfl ?_); refine box_on ?hg (N := 1) ?hd (cs := #[.int .i64 a814, .int .i64 a815, .int .i64 a816, .int .i64 a817]) (t := 49) ?hr ?_; (case hd => rfl); (case hg => rfl); (case hr => first | (go_simp; done) | (go_simp; rfl)); intro g818 hg w819 hbox hb; replace HS : Aside0 (Sep (fps []) w [b1 g818 a814 a815 a816 a817] w819) := ⟨HS.out.box hg hbox hb⟩; clear hg hbox hb; have hc821 : w819.cell? ⟨g818, 0, none⟩ = some (.int .i64 a814) := blk_cellv (HS.out.at0) 0 rfl; have hc824 : w819.cell? ⟨g818, 1, none⟩ = some (.int .i64 a815) := blk_cellv (HS.out.at0) 1 rfl; have hc827 : w819.cell? ⟨g818, 2, none⟩ = some (.int .i64 a816) := blk_cellv (HS.out.at0) 2 rfl; have hc830 : w819.cell? ⟨g818, 3, none⟩ = some (.int .i64 a817) := blk_cellv (HS.out.at0) 3 rfl; replace HS : Aside0 (Sep (fps []) w [] w819) := ⟨HS.out.sub (.cons _ .slnil)⟩))
                  clear hc821 hc824 hc827 hc830
                  go_ret
                  rw [← some_eq H]
                  exact ⟨(by first | rfl | (simp [IntKind.wrap_u32]; done)), HS.out⟩
                · replace H := if_no c832 H
                  have c832b0 : decide (65536 < a817) = false := decide_eq_false c832
                  clear c832
                  go_wp2_with (first | ((with_reducible refine gate_dst (N := 1) rfl ?_); refine box_on ?hg (N := 1) ?hd (cs := #[.int .i64 a814, .int .i64 a815, .int .i64 a816, .int .i64 a817]) (t := 49) ?hr ?_; (case hd => rfl); (case hg => rfl); (case hr => first | (go_simp; done) | (go_simp; rfl)); intro g818 hg w819 hbox hb; replace HS : Aside0 (Sep (fps []) w [b1 g818 a814 a815 a816 a817] w819) := ⟨HS.out.box hg hbox hb⟩; clear hg hbox hb; have hc821 : w819.cell? ⟨g818, 0, none⟩ = some (.int .i64 a814) := blk_cellv (HS.out.at0) 0 rfl; have hc824 : w819.cell? ⟨g818, 1, none⟩ = some (.int .i64 a815) := blk_cellv (HS.out.at0) 1 rfl; have hc827 : w819.cell? ⟨g818, 2, none⟩ = some (.int .i64 a816) := blk_cellv (HS.out.at0) 2 rfl; have hc830 : w819.cell? ⟨g818, 3, none⟩ = some (.int .i64 a817) := blk_cellv (HS.out.at0) 3 rfl; replace HS : Aside0 (Sep (fps []) w [] w819) := ⟨HS.out.sub (.cons _ .slnil)⟩))
                  clear hc821 hc824 hc827 hc830
                  go_ret
                  rw [← some_eq H]
                  exact ⟨(by first | rfl | (simp [IntKind.wrap_u32]; done)), HS.out⟩

set_option maxHeartbeats 30000000 in
set_option maxRecDepth 100000 in
theorem quitrentref05_Little.calls (a841 : Int) (a842 : Int) (a843 : Int) (a844 : Int) (r : Bool) (w : World)   (HS : Aside0 (Sep (fps []) w [] w)) (H : Aside0 (quitrentref05_Little.f a841 a842 a843 a844 = some r)) :
    Calls Try.prog 32 #[.agg #[.int .i64 a841, .int .i64 a842, .int .i64 a843, .int .i64 a844]] w fun e w' => e = .returned (.bool r) ∧ Sep (fps []) w [] w' := by
  unfold quitrentref05_Little.f at H
  go_enter Try.func32, Try.ntmps32
  by_cases c849 : a841 ≤ 300
  · replace H := if_yes c849 H
    have c849b0 : decide (a841 ≤ 300) = true := decide_eq_true c849
    clear c849
    by_cases c851 : a842 ≤ 64
    · replace H := if_yes c851 H
      have c851b0 : decide (a842 ≤ 64) = true := decide_eq_true c851
      clear c851
      go_wp2_with (first | ((with_reducible refine gate_dst (N := 1) rfl ?_); refine box_on ?hg (N := 1) ?hd (cs := #[.int .i64 a841, .int .i64 a842, .int .i64 a843, .int .i64 a844]) (t := 49) ?hr ?_; (case hd => rfl); (case hg => rfl); (case hr => first | (go_simp; done) | (go_simp; rfl)); intro g845 hg w846 hbox hb; replace HS : Aside0 (Sep (fps []) w [b1 g845 a841 a842 a843 a844] w846) := ⟨HS.out.box hg hbox hb⟩; clear hg hbox hb; have hc848 : w846.cell? ⟨g845, 0, none⟩ = some (.int .i64 a841) := blk_cellv (HS.out.at0) 0 rfl; have hc850 : w846.cell? ⟨g845, 1, none⟩ = some (.int .i64 a842) := blk_cellv (HS.out.at0) 1 rfl; have hc852 : w846.cell? ⟨g845, 2, none⟩ = some (.int .i64 a843) := blk_cellv (HS.out.at0) 2 rfl; replace HS : Aside0 (Sep (fps []) w [] w846) := ⟨HS.out.sub (.cons _ .slnil)⟩))
      clear hc848 hc850 hc852
      go_ret
      rw [← some_eq H]
      exact ⟨(by first | rfl | (simp [IntKind.wrap_u32]; done)), HS.out⟩
    · replace H := if_no c851 H
      have c851b0 : decide (a842 ≤ 64) = false := decide_eq_false c851
      clear c851
      go_wp2_with (first | ((with_reducible refine gate_dst (N := 1) rfl ?_); refine box_on ?hg (N := 1) ?hd (cs := #[.int .i64 a841, .int .i64 a842, .int .i64 a843, .int .i64 a844]) (t := 49) ?hr ?_; (case hd => rfl); (case hg => rfl); (case hr => first | (go_simp; done) | (go_simp; rfl)); intro g845 hg w846 hbox hb; replace HS : Aside0 (Sep (fps []) w [b1 g845 a841 a842 a843 a844] w846) := ⟨HS.out.box hg hbox hb⟩; clear hg hbox hb; have hc848 : w846.cell? ⟨g845, 0, none⟩ = some (.int .i64 a841) := blk_cellv (HS.out.at0) 0 rfl; have hc850 : w846.cell? ⟨g845, 1, none⟩ = some (.int .i64 a842) := blk_cellv (HS.out.at0) 1 rfl; replace HS : Aside0 (Sep (fps []) w [] w846) := ⟨HS.out.sub (.cons _ .slnil)⟩))
      clear hc848 hc850
      go_ret
      rw [← some_eq H]
      exact ⟨(by first | rfl | (simp [IntKind.wrap_u32]; done)), HS.out⟩
  · replace H := if_no c849 H
    have c849b0 : decide (a841 ≤ 300) = false := decide_eq_false c849
    clear c849
    go_wp2_with (first | ((with_reducible refine gate_dst (N := 1) rfl ?_); refine box_on ?hg (N := 1) ?hd (cs := #[.int .i64 a841, .int .i64 a842, .int .i64 a843, .int .i64 a844]) (t := 49) ?hr ?_; (case hd => rfl); (case hg => rfl); (case hr => first | (go_simp; done) | (go_simp; rfl)); intro g845 hg w846 hbox hb; replace HS : Aside0 (Sep (fps []) w [b1 g845 a841 a842 a843 a844] w846) := ⟨HS.out.box hg hbox hb⟩; clear hg hbox hb; have hc848 : w846.cell? ⟨g845, 0, none⟩ = some (.int .i64 a841) := blk_cellv (HS.out.at0) 0 rfl; replace HS : Aside0 (Sep (fps []) w [] w846) := ⟨HS.out.sub (.cons _ .slnil)⟩))
    clear hc848
    go_ret
    rw [← some_eq H]
    exact ⟨(by first | rfl | (simp [IntKind.wrap_u32]; done)), HS.out⟩

set_option maxHeartbeats 30000000 in
set_option maxRecDepth 100000 in
theorem chain_of.calls (l910 : List Int) (a915 : Int) (a916 : Int) (a917 : Int) (a918 : Int) (a919 : Int) (a920 : Int) (g906 : Nat) (g908 : Nat) (A911 : Option Addr) (m912 : Nat) (n913 : Nat) (r : Int × Int × Int × Bool) (w : World)   (HS : Aside0 (Sep (fps [b7 g906 g908 a916 a917 a918 a919, b6 g908 A911 m912 n913 a915, r5 A911 m912 n913 l910]) w [b7 g906 g908 a916 a917 a918 a919, b6 g908 A911 m912 n913 a915, r5 A911 m912 n913 l910] w)) (H : Aside0 (chain_of.f l910 a915 a916 a917 a918 a919 a920 = some r)) :
    Calls Try.prog 91 #[.pointer (some ⟨g906, 0, none⟩), .int .i64 a920] w fun e w' => e = .returned (.tuple #[.agg #[.int .i64 r.1, .int .i64 r.2.1, .int .i64 r.2.2.1], .bool r.2.2.2]) ∧ Sep (fps [b7 g906 g908 a916 a917 a918 a919, b6 g908 A911 m912 n913 a915, r5 A911 m912 n913 l910]) w [b7 g906 g908 a916 a917 a918 a919, b6 g908 A911 m912 n913 a915, r5 A911 m912 n913 l910] w' := by
  generalize (fps [b7 g906 g908 a916 a917 a918 a919, b6 g908 A911 m912 n913 a915, r5 A911 m912 n913 l910]) = FF at HS ⊢
  obtain rfl := (row_len (HS.out.at2)).symm
  unfold chain_of.f at H
  go_enter Try.func91, Try.ntmps91
  by_cases c924 : a920 < 0
  · replace H := if_yes c924 H
    have c924b0 : decide (a920 < 0) = true := decide_eq_true c924
    clear c924
    go_wp2_with (first | ((with_reducible refine gate_dst (N := 4) rfl ?_); refine box_on ?hg (N := 4) ?hd (cs := #[.int .i64 0, .int .i64 0, .int .i64 0]) (t := 134) ?hr ?_; (case hd => rfl); (case hg => rfl); (case hr => first | (go_simp; done) | (go_simp; rfl)); intro g921 hg w922 hbox hb; replace HS : Aside0 (Sep FF w [b7 g906 g908 a916 a917 a918 a919, b6 g908 A911 l910.length n913 a915, r5 A911 l910.length n913 l910, b8 g921 0 0 0] w922) := ⟨HS.out.box hg hbox hb⟩; clear hg hbox hb; have hc925 : w922.cell? ⟨g921, 0, none⟩ = some (.int .i64 0) := blk_cellv (HS.out.at3) 0 rfl; have hz926 : w922.frozen? ⟨g921, 0, none⟩ = false := blk_fz (HS.out.at3) 0; have hc927 : w922.cell? ⟨g921, 1, none⟩ = some (.int .i64 0) := blk_cellv (HS.out.at3) 1 rfl; have hz928 : w922.frozen? ⟨g921, 1, none⟩ = false := blk_fz (HS.out.at3) 1; have hc929 : w922.cell? ⟨g921, 2, none⟩ = some (.int .i64 0) := blk_cellv (HS.out.at3) 2 rfl; have hz930 : w922.frozen? ⟨g921, 2, none⟩ = false := blk_fz (HS.out.at3) 2) | ((with_reducible refine gate_store (t := 134) (p := 4) rfl ?_); refine store_event (w1 := (World.setCell (World.setCell (World.setCell w922 ⟨g921, 0, none⟩ (.int .i64 0)) ⟨g921, 1, none⟩ (.int .i64 0)) ⟨g921, 2, none⟩ (.int .i64 0))) rfl (t := 134) (p := 4) rfl rfl ?hr ?_; (case hr => first | (go_simp; done) | (go_simp; rfl)); intro w931 hst; clear hc925 hz926 hc927 hz928 hc929 hz930; replace HS : Aside0 (Sep FF w [b7 g906 g908 a916 a917 a918 a919, b6 g908 A911 l910.length n913 a915, r5 A911 l910.length n913 l910, b8 g921 0 0 0] w931) := ⟨by rw [hst]; exact HS.out.setAll (l1 := [b7 g906 g908 a916 a917 a918 a919, b6 g908 A911 l910.length n913 a915, r5 A911 l910.length n913 l910]) (l2 := []) [.int .i64 0, .int .i64 0, .int .i64 0] rfl⟩; clear hst))
    have hc932 : w931.cell? ⟨g921, 0, none⟩ = some (.int .i64 0) := blk_cellv (HS.out.at3) 0 rfl
    have hc933 : w931.cell? ⟨g921, 1, none⟩ = some (.int .i64 0) := blk_cellv (HS.out.at3) 1 rfl
    have hc934 : w931.cell? ⟨g921, 2, none⟩ = some (.int .i64 0) := blk_cellv (HS.out.at3) 2 rfl
    refine bodyPost_ret (v := .tuple #[.agg #[.int .i64 0, .int .i64 0, .int .i64 0], .bool false]) (by simp [results, Try.results91, go_sem, hc932, hc933, hc934]) rfl ?_
    rw [← some_eq H]
    exact ⟨(by first | rfl | (simp [IntKind.wrap_u32]; done)), HS.out.sub (.cons_cons _ (.cons_cons _ (.cons_cons _ (.cons _ .slnil))))⟩
  · replace H := if_no c924 H
    have c924b0 : decide (a920 < 0) = false := decide_eq_false c924
    clear c924
    by_cases c935 : a920 > 1
    · replace H := if_yes c935 H
      have c935b0 : decide (1 < a920) = true := decide_eq_true c935
      clear c935
      go_wp2_with (first | ((with_reducible refine gate_dst (N := 4) rfl ?_); refine box_on ?hg (N := 4) ?hd (cs := #[.int .i64 0, .int .i64 0, .int .i64 0]) (t := 134) ?hr ?_; (case hd => rfl); (case hg => rfl); (case hr => first | (go_simp; done) | (go_simp; rfl)); intro g921 hg w922 hbox hb; replace HS : Aside0 (Sep FF w [b7 g906 g908 a916 a917 a918 a919, b6 g908 A911 l910.length n913 a915, r5 A911 l910.length n913 l910, b8 g921 0 0 0] w922) := ⟨HS.out.box hg hbox hb⟩; clear hg hbox hb; have hc936 : w922.cell? ⟨g921, 0, none⟩ = some (.int .i64 0) := blk_cellv (HS.out.at3) 0 rfl; have hz937 : w922.frozen? ⟨g921, 0, none⟩ = false := blk_fz (HS.out.at3) 0; have hc938 : w922.cell? ⟨g921, 1, none⟩ = some (.int .i64 0) := blk_cellv (HS.out.at3) 1 rfl; have hz939 : w922.frozen? ⟨g921, 1, none⟩ = false := blk_fz (HS.out.at3) 1; have hc940 : w922.cell? ⟨g921, 2, none⟩ = some (.int .i64 0) := blk_cellv (HS.out.at3) 2 rfl; have hz941 : w922.frozen? ⟨g921, 2, none⟩ = false := blk_fz (HS.out.at3) 2) | ((with_reducible refine gate_store (t := 134) (p := 4) rfl ?_); refine store_event (w1 := (World.setCell (World.setCell (World.setCell w922 ⟨g921, 0, none⟩ (.int .i64 0)) ⟨g921, 1, none⟩ (.int .i64 0)) ⟨g921, 2, none⟩ (.int .i64 0))) rfl (t := 134) (p := 4) rfl rfl ?hr ?_; (case hr => first | (go_simp; done) | (go_simp; rfl)); intro w942 hst; clear hc936 hz937 hc938 hz939 hc940 hz941; replace HS : Aside0 (Sep FF w [b7 g906 g908 a916 a917 a918 a919, b6 g908 A911 l910.length n913 a915, r5 A911 l910.length n913 l910, b8 g921 0 0 0] w942) := ⟨by rw [hst]; exact HS.out.setAll (l1 := [b7 g906 g908 a916 a917 a918 a919, b6 g908 A911 l910.length n913 a915, r5 A911 l910.length n913 l910]) (l2 := []) [.int .i64 0, .int .i64 0, .int .i64 0] rfl⟩; clear hst))
      have hc943 : w942.cell? ⟨g921, 0, none⟩ = some (.int .i64 0) := blk_cellv (HS.out.at3) 0 rfl
      have hc944 : w942.cell? ⟨g921, 1, none⟩ = some (.int .i64 0) := blk_cellv (HS.out.at3) 1 rfl
      have hc945 : w942.cell? ⟨g921, 2, none⟩ = some (.int .i64 0) := blk_cellv (HS.out.at3) 2 rfl
      refine bodyPost_ret (v := .tuple #[.agg #[.int .i64 0, .int .i64 0, .int .i64 0], .bool false]) (by simp [results, Try.results91, go_sem, hc943, hc944, hc945]) rfl ?_
      rw [← some_eq H]
      exact ⟨(by first | rfl | (simp [IntKind.wrap_u32]; done)), HS.out.sub (.cons_cons _ (.cons_cons _ (.cons_cons _ (.cons _ .slnil))))⟩
    · replace H := if_no c935 H
      have c935b0 : decide (1 < a920) = false := decide_eq_false c935
      clear c935
      go_wp2_with (first | ((with_reducible refine gate_dst (N := 4) rfl ?_); refine box_on ?hg (N := 4) ?hd (cs := #[.int .i64 0, .int .i64 0, .int .i64 0]) (t := 134) ?hr ?_; (case hd => rfl); (case hg => rfl); (case hr => first | (go_simp; done) | (go_simp; rfl)); intro g921 hg w922 hbox hb; replace HS : Aside0 (Sep FF w [b7 g906 g908 a916 a917 a918 a919, b6 g908 A911 l910.length n913 a915, r5 A911 l910.length n913 l910, b8 g921 0 0 0] w922) := ⟨HS.out.box hg hbox hb⟩; clear hg hbox hb; have hc946 : w922.cell? ⟨g921, 0, none⟩ = some (.int .i64 0) := blk_cellv (HS.out.at3) 0 rfl; have hz947 : w922.frozen? ⟨g921, 0, none⟩ = false := blk_fz (HS.out.at3) 0; have hc948 : w922.cell? ⟨g921, 1, none⟩ = some (.int .i64 0) := blk_cellv (HS.out.at3) 1 rfl; have hz949 : w922.frozen? ⟨g921, 1, none⟩ = false := blk_fz (HS.out.at3) 1; have hc950 : w922.cell? ⟨g921, 2, none⟩ = some (.int .i64 0) := blk_cellv (HS.out.at3) 2 rfl; have hz951 : w922.frozen? ⟨g921, 2, none⟩ = false := blk_fz (HS.out.at3) 2) | ((with_reducible refine gate_store (t := 134) (p := 4) rfl ?_); refine store_event (w1 := (World.setCell (World.setCell (World.setCell w922 ⟨g921, 0, none⟩ (.int .i64 (wrap64 (3 * a920)))) ⟨g921, 1, none⟩ (.int .i64 (wrap64 ((wrap64 (3 * a920)) + 1)))) ⟨g921, 2, none⟩ (.int .i64 (wrap64 ((wrap64 (3 * a920)) + 2))))) rfl (t := 134) (p := 4) rfl rfl ?hr ?_; (case hr => first | (go_simp; done) | (go_simp; rfl)); intro w952 hst; clear hc946 hz947 hc948 hz949 hc950 hz951; replace HS : Aside0 (Sep FF w [b7 g906 g908 a916 a917 a918 a919, b6 g908 A911 l910.length n913 a915, r5 A911 l910.length n913 l910, b8 g921 (wrap64 (3 * a920)) (wrap64 ((wrap64 (3 * a920)) + 1)) (wrap64 ((wrap64 (3 * a920)) + 2))] w952) := ⟨by rw [hst]; exact HS.out.setAll (l1 := [b7 g906 g908 a916 a917 a918 a919, b6 g908 A911 l910.length n913 a915, r5 A911 l910.length n913 l910]) (l2 := []) [.int .i64 (wrap64 (3 * a920)), .int .i64 (wrap64 ((wrap64 (3 * a920)) + 1)), .int .i64 (wrap64 ((wrap64 (3 * a920)) + 2))] rfl⟩; clear hst))
      have hc953 : w952.cell? ⟨g921, 0, none⟩ = some (.int .i64 (wrap64 (3 * a920))) := blk_cellv (HS.out.at3) 0 rfl
      have hc954 : w952.cell? ⟨g921, 1, none⟩ = some (.int .i64 (wrap64 ((wrap64 (3 * a920)) + 1))) := blk_cellv (HS.out.at3) 1 rfl
      have hc955 : w952.cell? ⟨g921, 2, none⟩ = some (.int .i64 (wrap64 ((wrap64 (3 * a920)) + 2))) := blk_cellv (HS.out.at3) 2 rfl
      refine bodyPost_ret (v := .tuple #[.agg #[.int .i64 (wrap64 (3 * a920)), .int .i64 (wrap64 ((wrap64 (3 * a920)) + 1)), .int .i64 (wrap64 ((wrap64 (3 * a920)) + 2))], .bool true]) (by simp [results, Try.results91, go_sem, hc953, hc954, hc955]) rfl ?_
      rw [← some_eq H]
      exact ⟨(by first | rfl | (simp [IntKind.wrap_u32]; done)), HS.out.sub (.cons_cons _ (.cons_cons _ (.cons_cons _ (.cons _ .slnil))))⟩

set_option maxHeartbeats 30000000 in
set_option maxRecDepth 100000 in
theorem ground_Ground_all.calls (l992 : List Int) (a997 : Int) (a998 : Int) (a999 : Int) (a1000 : Int) (a1001 : Int) (g988 : Nat) (g990 : Nat) (A993 : Option Addr) (m994 : Nat) (n995 : Nat) (r : Unit) (w : World)   (HS : Aside0 (Sep (fps [b7 g988 g990 a998 a999 a1000 a1001, b6 g990 A993 m994 n995 a997, r5 A993 m994 n995 l992]) w [b7 g988 g990 a998 a999 a1000 a1001, b6 g990 A993 m994 n995 a997, r5 A993 m994 n995 l992] w)) (H : Aside0 (ground_Ground_all.f l992 a997 a998 a999 a1000 a1001 = some r)) :
    Calls Try.prog 77 #[.pointer (some ⟨g988, 0, none⟩)] w fun e w' => e = .returned (.pointer (some ⟨g990, 0, none⟩)) ∧ Sep (fps [b7 g988 g990 a998 a999 a1000 a1001, b6 g990 A993 m994 n995 a997, r5 A993 m994 n995 l992]) w [b7 g988 g990 a998 a999 a1000 a1001, b6 g990 A993 m994 n995 a997, r5 A993 m994 n995 l992] w' := by
  generalize (fps [b7 g988 g990 a998 a999 a1000 a1001, b6 g990 A993 m994 n995 a997, r5 A993 m994 n995 l992]) = FF at HS ⊢
  obtain rfl := (row_len (HS.out.at2)).symm
  unfold ground_Ground_all.f at H
  go_enter Try.func77, Try.ntmps77
  have hc1002 : w.cell? ⟨g988, 0, none⟩ = some (.pointer (some ⟨g990, 0, none⟩)) := blk_cellv (HS.out.at0) 0 rfl
  go_wp2_with fail
  clear hc1002
  go_ret
  clear H
  exact ⟨(by first | rfl | (simp [IntKind.wrap_u32]; done)), HS.out⟩

set_option maxHeartbeats 30000000 in
set_option maxRecDepth 100000 in
theorem ground_within.calls (a1007 : Int) (a1008 : Int) (a1009 : Int) (r : Int) (w : World)   (HS : Aside0 (Sep (fps []) w [] w)) (H : Aside0 (ground_within.f a1007 a1008 a1009 = some r)) :
    Calls Try.prog 109 #[.int .i64 a1007, .int .i64 a1008, .int .i64 a1009] w fun e w' => e = .returned (.int .i64 r) ∧ Sep (fps []) w [] w' := by
  unfold ground_within.f at H
  go_enter Try.func109, Try.ntmps109
  by_cases c1010 : a1007 < 0
  · replace H := if_yes c1010 H
    have c1010b0 : decide (a1007 < 0) = true := decide_eq_true c1010
    clear c1010
    go_wp2_with fail
    go_ret
    rw [← some_eq H]
    exact ⟨(by first | rfl | (simp [IntKind.wrap_u32]; done)), HS.out⟩
  · replace H := if_no c1010 H
    have c1010b0 : decide (a1007 < 0) = false := decide_eq_false c1010
    clear c1010
    by_cases c1011 : a1007 ≥ a1008
    · replace H := if_yes c1011 H
      have c1011b0 : decide (a1008 ≤ a1007) = true := decide_eq_true c1011
      clear c1011
      go_wp2_with fail
      go_ret
      rw [← some_eq H]
      exact ⟨(by first | rfl | (simp [IntKind.wrap_u32]; done)), HS.out⟩
    · replace H := if_no c1011 H
      have c1011b0 : decide (a1008 ≤ a1007) = false := decide_eq_false c1011
      clear c1011
      go_wp2_with fail
      go_ret
      rw [← some_eq H]
      exact ⟨(by first | rfl | (simp [IntKind.wrap_u32]; done)), HS.out⟩

set_option maxHeartbeats 30000000 in
set_option maxRecDepth 100000 in
theorem ground_reg.calls (a1006 : Int) (r : Int) (w : World)   (HS : Aside0 (Sep (fps []) w [] w)) (H : Aside0 (ground_reg.f a1006 = some r)) :
    Calls Try.prog 78 #[.int .i64 a1006] w fun e w' => e = .returned (.int .i64 r) ∧ Sep (fps []) w [] w' := by
  unfold ground_reg.f at H
  go_enter Try.func78, Try.ntmps78
  go_wp2_with fail
  obtain ⟨t1012, HA1013, H⟩ := bind_some H
  refine (ground_within.calls a1006 24 0 t1012 _ ⟨Sep.start _⟩ HA1013).mono ?_
  rintro e_ w1014 ⟨rfl, hS⟩
  replace HS : Aside0 (Sep (fps []) w [] w1014) := ⟨HS.out.call hS⟩
  clear hS
  go_wp2_with fail
  go_ret
  rw [← some_eq H]
  exact ⟨(by first | rfl | (simp [IntKind.wrap_u32]; done)), HS.out⟩

set_option maxHeartbeats 30000000 in
set_option maxRecDepth 100000 in
theorem store_Store_has.calls (l1031 : List Int) (a1036 : Int) (a1037 : Int) (g1029 : Nat) (A1032 : Option Addr) (m1033 : Nat) (n1034 : Nat) (r : Bool) (w : World)   (HS : Aside0 (Sep (fps [b6 g1029 A1032 m1033 n1034 a1036, r5 A1032 m1033 n1034 l1031]) w [b6 g1029 A1032 m1033 n1034 a1036, r5 A1032 m1033 n1034 l1031] w)) (H : Aside0 (store_Store_has.f l1031 a1036 a1037 = some r)) :
    Calls Try.prog 69 #[.pointer (some ⟨g1029, 0, none⟩), .int .i64 a1037] w fun e w' => e = .returned (.bool r) ∧ Sep (fps [b6 g1029 A1032 m1033 n1034 a1036, r5 A1032 m1033 n1034 l1031]) w [b6 g1029 A1032 m1033 n1034 a1036, r5 A1032 m1033 n1034 l1031] w' := by
  generalize (fps [b6 g1029 A1032 m1033 n1034 a1036, r5 A1032 m1033 n1034 l1031]) = FF at HS ⊢
  obtain rfl := (row_len (HS.out.at1)).symm
  unfold store_Store_has.f at H
  go_enter Try.func69, Try.ntmps69
  by_cases c1038 : a1037 ≥ 0
  · replace H := if_yes c1038 H
    have c1038b0 : decide (0 ≤ a1037) = true := decide_eq_true c1038
    clear c1038
    have hc1039 : w.cell? ⟨g1029, 0, none⟩ = some (.slice A1032 l1031.length n1034) := blk_cellv (HS.out.at0) 0 rfl
    go_wp2_with fail
    clear hc1039
    go_ret
    rw [← some_eq H]
    exact ⟨(by first | rfl | (simp [IntKind.wrap_u32]; done)), HS.out⟩
  · replace H := if_no c1038 H
    have c1038b0 : decide (0 ≤ a1037) = false := decide_eq_false c1038
    clear c1038
    go_wp2_with fail
    go_ret
    rw [← some_eq H]
    exact ⟨(by first | rfl | (simp [IntKind.wrap_u32]; done)), HS.out⟩

set_option maxHeartbeats 30000000 in
set_option maxRecDepth 100000 in
theorem atomic_Uint64_Add.calls (l1047 : List Int) (a1052 : Int) (a1053 : Int) (g1045 : Nat) (A1048 : Option Addr) (m1049 : Nat) (n1050 : Nat) (r : Int × Int) (w : World)   (HS : Aside0 (Sep (fps [b6 g1045 A1048 m1049 n1050 a1052, r5 A1048 m1049 n1050 l1047]) w [b6 g1045 A1048 m1049 n1050 a1052, r5 A1048 m1049 n1050 l1047] w)) (H : Aside0 (atomic_Uint64_Add.f l1047 a1052 a1053 = some r)) :
    Calls Try.prog 71 #[.pointer (some ⟨g1045, 1, none⟩), .int .u64 a1053] w fun e w' => e = .returned (.int .u64 r.1) ∧ Sep (fps [b6 g1045 A1048 m1049 n1050 a1052, r5 A1048 m1049 n1050 l1047]) w [b6 g1045 A1048 m1049 n1050 r.2, r5 A1048 m1049 n1050 l1047] w' := by
  generalize (fps [b6 g1045 A1048 m1049 n1050 a1052, r5 A1048 m1049 n1050 l1047]) = FF at HS ⊢
  obtain rfl := (row_len (HS.out.at1)).symm
  unfold atomic_Uint64_Add.f at H
  go_enter Try.func71, Try.ntmps71
  obtain ⟨y1063, HA1064, H⟩ := bind_some H
  have hc1060 : w.cell? ⟨g1045, 1, none⟩ = some (.int .u64 a1052) := blk_cellv (HS.out.at0) 1 rfl
  have hz1062 : w.frozen? ⟨g1045, 1, none⟩ = false := blk_fz (HS.out.at0) 1
  have hn1061 : (callFunc 104 #[.pointer (some ⟨g1045, 1, none⟩), .int .u64 a1053]).run Try.prog w = .ok (.value (.int .u64 y1063)) ((World.setCell w ⟨g1045, 1, none⟩ (.int .u64 y1063))) := (some_eq HA1064) ▸ run_call_add Try.func104 (by kernel_rfl) (by kernel_rfl) (by kernel_rfl) .u64 (by kernel_rfl) hc1060 hz1062 (by rfl)
  go_wp2_with (first | ((with_reducible refine gate_dst (N := 9) rfl ?_); refine run_on2 (by rfl) (w1 := (World.setCell w ⟨g1045, 1, none⟩ (.int .u64 y1063))) (v := .int .u64 y1063) ?hr ?_; (case hr => first | (go_simp; done) | (go_simp; rfl)); intro w1065 hst; clear hc1060 hz1062; have hq0 : Sep FF w [b6 g1045 A1048 l1047.length n1050 y1063, r5 A1048 l1047.length n1050 l1047] (World.setCell w ⟨g1045, 1, none⟩ (.int .u64 y1063)) := (HS.out).set1 (l1 := []) (l2 := [r5 A1048 l1047.length n1050 l1047]) 1 (.int .u64 y1063); replace HS : Aside0 (Sep FF w [b6 g1045 A1048 l1047.length n1050 y1063, r5 A1048 l1047.length n1050 l1047] w1065) := ⟨by rw [hst]; exact hq0⟩; clear hst hn1061 hq0))
  go_ret
  rw [← some_eq H]
  exact ⟨(by first | rfl | (simp [IntKind.wrap_u32]; done)), HS.out⟩

set_option maxHeartbeats 30000000 in
set_option maxRecDepth 100000 in
theorem store_Store_Get.calls (l1021 : List Int) (a1026 : Int) (a1027 : Int) (g1019 : Nat) (A1022 : Option Addr) (m1023 : Nat) (n1024 : Nat) (r : Int × Int) (w : World)   (HS : Aside0 (Sep (fps [b6 g1019 A1022 m1023 n1024 a1026, r5 A1022 m1023 n1024 l1021]) w [b6 g1019 A1022 m1023 n1024 a1026, r5 A1022 m1023 n1024 l1021] w)) (H : Aside0 (store_Store_Get.f l1021 a1026 a1027 = some r)) :
    Calls Try.prog 25 #[.pointer (some ⟨g1019, 0, none⟩), .int .i64 a1027] w fun e w' => e = .returned (.int .u32 r.1) ∧ Sep (fps [b6 g1019 A1022 m1023 n1024 a1026, r5 A1022 m1023 n1024 l1021]) w [b6 g1019 A1022 m1023 n1024 r.2, r5 A1022 m1023 n1024 l1021] w' := by
  generalize (fps [b6 g1019 A1022 m1023 n1024 a1026, r5 A1022 m1023 n1024 l1021]) = FF at HS ⊢
  obtain rfl := (row_len (HS.out.at1)).symm
  unfold store_Store_Get.f at H
  go_enter Try.func25, Try.ntmps25
  go_wp2_with fail
  obtain ⟨t1075, HA1076, H⟩ := bind_some H
  refine (store_Store_has.calls l1021 a1026 a1027 g1019 A1022 l1021.length n1024 t1075 _ ⟨HS.out.begin⟩ HA1076).mono ?_
  rintro e_ w1077 ⟨rfl, hS⟩
  replace HS : Aside0 (Sep FF w [b6 g1019 A1022 l1021.length n1024 a1026, r5 A1022 l1021.length n1024 l1021] w1077) := ⟨HS.out.call hS⟩
  clear hS
  by_cases c1078 : t1075 = true
  · replace H := if_yes c1078 H
    have c1078b0 : t1075 = true := c1078
    have c1078b1 : (!t1075) = false := by rw [c1078b0]; rfl
    try rw [c1078b1]
    clear c1078
    go_wp2_with fail
    obtain ⟨t1079, HA1080, H⟩ := bind_some H
    refine (atomic_Uint64_Add.calls l1021 a1026 1 g1019 A1022 l1021.length n1024 t1079 _ ⟨HS.out.begin⟩ HA1080).mono ?_
    rintro e_ w1081 ⟨rfl, hS⟩
    replace HS : Aside0 (Sep FF w [b6 g1019 A1022 l1021.length n1024 t1079.2, r5 A1022 l1021.length n1024 l1021] w1081) := ⟨HS.out.call hS⟩
    clear hS
    by_cases c1083 : 0 ≤ a1027
    · replace H := if_yes c1083 H
      have c1083b0 : decide (0 ≤ a1027) = true := decide_eq_true c1083
      have c1083p : (0 ≤ a1027) = True := eq_true c1083
      clear c1083
      by_cases c1084 : a1027 < (l1021.length : Int)
      · replace H := if_yes c1084 H
        have c1084b0 : decide (a1027 < (l1021.length : Int)) = true := decide_eq_true c1084
        have c1084p : (a1027 < (l1021.length : Int)) = True := eq_true c1084
        clear c1084
        have hc1082 : w1081.cell? ⟨g1019, 0, none⟩ = some (.slice A1022 l1021.length n1024) := blk_cellv (HS.out.at0) 0 rfl
        obtain ⟨g1085, ea⟩ := row_at (HS.out.at1) (by have := (of_decide_eq_true c1083b0); have := (of_decide_eq_true c1084b0); omega); cases ea
        have hx1086 := C_at_int (row_Ci (HS.out.at1)) a1027 (of_decide_eq_true c1083b0) (of_decide_eq_true c1084b0)
        have hx1087 : w1081.cell? ⟨g1085, (a1027).toNat, none⟩ = some (.int .u32 (rd l1021 a1027)) := (row_get 0 (HS.out.at1) a1027 (of_decide_eq_true c1083b0) (of_decide_eq_true c1084b0)).1
        go_wp2_with fail
        clear hc1082 hx1086 hx1087
        go_ret
        rw [← some_eq H]
        exact ⟨(by first | rfl | (simp [IntKind.wrap_u32]; done)), HS.out⟩
      · replace H := if_no c1084 H
        have c1084b0 : decide (a1027 < (l1021.length : Int)) = false := decide_eq_false c1084
        clear c1084
        exact (none_no H).elim
    · replace H := if_no c1083 H
      have c1083b0 : decide (0 ≤ a1027) = false := decide_eq_false c1083
      clear c1083
      exact (none_no H).elim
  · replace H := if_no c1078 H
    have c1078b0 : t1075 = false := by simpa using c1078
    have c1078b1 : (!t1075) = true := by rw [c1078b0]; rfl
    try rw [c1078b1]
    clear c1078
    go_wp2_with fail
    go_ret
    rw [← some_eq H]
    exact ⟨(by first | rfl | (simp [IntKind.wrap_u32]; done)), HS.out⟩

set_option maxHeartbeats 30000000 in
set_option maxRecDepth 100000 in
theorem ground_Ground_Reg.calls (l976 : List Int) (a981 : Int) (a982 : Int) (a983 : Int) (a984 : Int) (a985 : Int) (a986 : Int) (g972 : Nat) (g974 : Nat) (A977 : Option Addr) (m978 : Nat) (n979 : Nat) (r : Int × Int) (w : World)   (HS : Aside0 (Sep (fps [b7 g972 g974 a982 a983 a984 a985, b6 g974 A977 m978 n979 a981, r5 A977 m978 n979 l976]) w [b7 g972 g974 a982 a983 a984 a985, b6 g974 A977 m978 n979 a981, r5 A977 m978 n979 l976] w)) (H : Aside0 (ground_Ground_Reg.f l976 a981 a982 a983 a984 a985 a986 = some r)) :
    Calls Try.prog 36 #[.pointer (some ⟨g972, 0, none⟩), .int .i64 a986] w fun e w' => e = .returned (.int .i64 r.1) ∧ Sep (fps [b7 g972 g974 a982 a983 a984 a985, b6 g974 A977 m978 n979 a981, r5 A977 m978 n979 l976]) w [b7 g972 g974 a982 a983 a984 a985, b6 g974 A977 m978 n979 r.2, r5 A977 m978 n979 l976] w' := by
  generalize (fps [b7 g972 g974 a982 a983 a984 a985, b6 g974 A977 m978 n979 a981, r5 A977 m978 n979 l976]) = FF at HS ⊢
  obtain rfl := (row_len (HS.out.at2)).symm
  unfold ground_Ground_Reg.f at H
  go_enter Try.func36, Try.ntmps36
  go_wp2_with fail
  obtain ⟨t1091, HA1092, H⟩ := bind_some H
  refine (ground_Ground_all.calls l976 a981 a982 a983 a984 a985 g972 g974 A977 l976.length n979 t1091 _ ⟨HS.out.begin⟩ HA1092).mono ?_
  rintro e_ w1093 ⟨rfl, hS⟩
  replace HS : Aside0 (Sep FF w [b7 g972 g974 a982 a983 a984 a985, b6 g974 A977 l976.length n979 a981, r5 A977 l976.length n979 l976] w1093) := ⟨HS.out.call hS⟩
  clear hS
  go_wp2_with fail
  obtain ⟨t1094, HA1095, H⟩ := bind_some H
  refine (ground_reg.calls a986 t1094 _ ⟨Sep.start _⟩ HA1095).mono ?_
  rintro e_ w1096 ⟨rfl, hS⟩
  replace HS : Aside0 (Sep FF w [b7 g972 g974 a982 a983 a984 a985, b6 g974 A977 l976.length n979 a981, r5 A977 l976.length n979 l976] w1096) := ⟨HS.out.call hS⟩
  clear hS
  go_wp2_with fail
  replace HS : Aside0 (Sep FF w [r5 A977 l976.length n979 l976, b7 g972 g974 a982 a983 a984 a985, b6 g974 A977 l976.length n979 a981] w1096) := ⟨HS.out.front 2 (by simp)⟩
  replace HS : Aside0 (Sep FF w [b6 g974 A977 l976.length n979 a981, r5 A977 l976.length n979 l976, b7 g972 g974 a982 a983 a984 a985] w1096) := ⟨HS.out.front 2 (by simp)⟩
  obtain ⟨t1097, HA1098, H⟩ := bind_some H
  refine (store_Store_Get.calls l976 a981 t1094 g974 A977 l976.length n979 t1097 _ ⟨HS.out.begin⟩ HA1098).mono ?_
  rintro e_ w1099 ⟨rfl, hS⟩
  replace HS : Aside0 (Sep FF w [b6 g974 A977 l976.length n979 t1097.2, r5 A977 l976.length n979 l976, b7 g972 g974 a982 a983 a984 a985] w1099) := ⟨HS.out.call hS⟩
  clear hS
  go_wp2_with fail
  go_ret
  rw [← some_eq H]
  exact ⟨(by first | rfl | (simp [IntKind.wrap_u32]; done)), ((((HS.out).front 1 (by simp)).front 1 (by simp)).front 2 (by simp)).keep (l := [b7 g972 g974 a982 a983 a984 a985, b6 g974 A977 l976.length n979 t1097.2, r5 A977 l976.length n979 l976]) (rest := [])⟩

set_option maxHeartbeats 30000000 in
set_option maxRecDepth 100000 in
theorem chain_Len.calls (l894 : List Int) (a899 : Int) (a900 : Int) (a901 : Int) (a902 : Int) (a903 : Int) (a904 : Int) (g890 : Nat) (g892 : Nat) (A895 : Option Addr) (m896 : Nat) (n897 : Nat) (r : Int × Int) (w : World)   (HS : Aside0 (Sep (fps [b7 g890 g892 a900 a901 a902 a903, b6 g892 A895 m896 n897 a899, r5 A895 m896 n897 l894]) w [b7 g890 g892 a900 a901 a902 a903, b6 g892 A895 m896 n897 a899, r5 A895 m896 n897 l894] w)) (H : Aside0 (chain_Len.f l894 a899 a900 a901 a902 a903 a904 = some r)) :
    Calls Try.prog 55 #[.pointer (some ⟨g890, 0, none⟩), .int .i64 a904] w fun e w' => e = .returned (.int .i64 r.1) ∧ Sep (fps [b7 g890 g892 a900 a901 a902 a903, b6 g892 A895 m896 n897 a899, r5 A895 m896 n897 l894]) w [b7 g890 g892 a900 a901 a902 a903, b6 g892 A895 m896 n897 r.2, r5 A895 m896 n897 l894] w' := by
  generalize (fps [b7 g890 g892 a900 a901 a902 a903, b6 g892 A895 m896 n897 a899, r5 A895 m896 n897 l894]) = FF at HS ⊢
  obtain rfl := (row_len (HS.out.at2)).symm
  unfold chain_Len.f at H
  go_enter Try.func55, Try.ntmps55
  go_wp2_with fail
  obtain ⟨t1103, HA1104, H⟩ := bind_some H
  refine (chain_of.calls l894 a899 a900 a901 a902 a903 a904 g890 g892 A895 l894.length n897 t1103 _ ⟨HS.out.begin⟩ HA1104).mono ?_
  rintro e_ w1105 ⟨rfl, hS⟩
  replace HS : Aside0 (Sep FF w [b7 g890 g892 a900 a901 a902 a903, b6 g892 A895 l894.length n897 a899, r5 A895 l894.length n897 l894] w1105) := ⟨HS.out.call hS⟩
  clear hS
  by_cases c1116 : t1103.2.2.2 = true
  · replace H := if_yes c1116 H
    have c1116b0 : t1103.2.2.2 = true := c1116
    have c1116b1 : (!t1103.2.2.2) = false := by rw [c1116b0]; rfl
    try rw [c1116b1]
    clear c1116
    go_wp2_with (first | ((with_reducible refine gate_dst (N := 5) rfl ?_); refine box_on ?hg (N := 5) ?hd (cs := #[.int .i64 0, .int .i64 0, .int .i64 0]) (t := 134) ?hr ?_; (case hd => rfl); (case hg => rfl); (case hr => first | (go_simp; done) | (go_simp; rfl)); intro g1106 hg w1107 hbox hb; replace HS : Aside0 (Sep FF w [b7 g890 g892 a900 a901 a902 a903, b6 g892 A895 l894.length n897 a899, r5 A895 l894.length n897 l894, b8 g1106 0 0 0] w1107) := ⟨HS.out.box hg hbox hb⟩; clear hg hbox hb; have hc1109 : w1107.cell? ⟨g1106, 0, none⟩ = some (.int .i64 0) := blk_cellv (HS.out.at3) 0 rfl; have hz1110 : w1107.frozen? ⟨g1106, 0, none⟩ = false := blk_fz (HS.out.at3) 0; have hc1111 : w1107.cell? ⟨g1106, 1, none⟩ = some (.int .i64 0) := blk_cellv (HS.out.at3) 1 rfl; have hz1112 : w1107.frozen? ⟨g1106, 1, none⟩ = false := blk_fz (HS.out.at3) 1; have hc1113 : w1107.cell? ⟨g1106, 2, none⟩ = some (.int .i64 0) := blk_cellv (HS.out.at3) 2 rfl; have hz1114 : w1107.frozen? ⟨g1106, 2, none⟩ = false := blk_fz (HS.out.at3) 2) | ((with_reducible refine gate_store (t := 134) (p := 5) rfl ?_); refine store_event (w1 := (World.setCell (World.setCell (World.setCell w1107 ⟨g1106, 0, none⟩ (.int .i64 t1103.1)) ⟨g1106, 1, none⟩ (.int .i64 t1103.2.1)) ⟨g1106, 2, none⟩ (.int .i64 t1103.2.2.1))) rfl (t := 134) (p := 5) rfl rfl ?hr ?_; (case hr => first | (go_simp; done) | (go_simp; rfl)); intro w1115 hst; clear hc1109 hz1110 hc1111 hz1112 hc1113 hz1114; replace HS : Aside0 (Sep FF w [b7 g890 g892 a900 a901 a902 a903, b6 g892 A895 l894.length n897 a899, r5 A895 l894.length n897 l894, b8 g1106 t1103.1 t1103.2.1 t1103.2.2.1] w1115) := ⟨by rw [hst]; exact HS.out.setAll (l1 := [b7 g890 g892 a900 a901 a902 a903, b6 g892 A895 l894.length n897 a899, r5 A895 l894.length n897 l894]) (l2 := []) [.int .i64 t1103.1, .int .i64 t1103.2.1, .int .i64 t1103.2.2.1] rfl⟩; clear hst; have hc1117 : w1115.cell? ⟨g1106, 2, none⟩ = some (.int .i64 t1103.2.2.1) := blk_cellv (HS.out.at3) 2 rfl))
    clear hc1117
    obtain ⟨t1118, HA1119, H⟩ := bind_some H
    refine (ground_Ground_Reg.calls l894 a899 a900 a901 a902 a903 t1103.2.2.1 g890 g892 A895 l894.length n897 t1118 _ ⟨HS.out.begin⟩ HA1119).mono ?_
    rintro e_ w1120 ⟨rfl, hS⟩
    replace HS : Aside0 (Sep FF w [b7 g890 g892 a900 a901 a902 a903, b6 g892 A895 l894.length n897 t1118.2, r5 A895 l894.length n897 l894, b8 g1106 t1103.1 t1103.2.1 t1103.2.2.1] w1120) := ⟨HS.out.call hS⟩
    clear hS
    replace HS : Aside0 (Sep FF w [b7 g890 g892 a900 a901 a902 a903, b6 g892 A895 l894.length n897 t1118.2, r5 A895 l894.length n897 l894] w1120) := ⟨HS.out.sub (.cons_cons _ (.cons_cons _ (.cons_cons _ (.cons _ .slnil))))⟩
    go_wp2_with fail
    go_ret
    rw [← some_eq H]
    exact ⟨(by first | rfl | (simp [IntKind.wrap_u32]; done)), HS.out⟩
  · replace H := if_no c1116 H
    have c1116b0 : t1103.2.2.2 = false := by simpa using c1116
    have c1116b1 : (!t1103.2.2.2) = true := by rw [c1116b0]; rfl
    try rw [c1116b1]
    clear c1116
    go_wp2_with (first | ((with_reducible refine gate_dst (N := 5) rfl ?_); refine box_on ?hg (N := 5) ?hd (cs := #[.int .i64 0, .int .i64 0, .int .i64 0]) (t := 134) ?hr ?_; (case hd => rfl); (case hg => rfl); (case hr => first | (go_simp; done) | (go_simp; rfl)); intro g1106 hg w1107 hbox hb; replace HS : Aside0 (Sep FF w [b7 g890 g892 a900 a901 a902 a903, b6 g892 A895 l894.length n897 a899, r5 A895 l894.length n897 l894, b8 g1106 0 0 0] w1107) := ⟨HS.out.box hg hbox hb⟩; clear hg hbox hb; have hc1109 : w1107.cell? ⟨g1106, 0, none⟩ = some (.int .i64 0) := blk_cellv (HS.out.at3) 0 rfl; have hz1110 : w1107.frozen? ⟨g1106, 0, none⟩ = false := blk_fz (HS.out.at3) 0; have hc1111 : w1107.cell? ⟨g1106, 1, none⟩ = some (.int .i64 0) := blk_cellv (HS.out.at3) 1 rfl; have hz1112 : w1107.frozen? ⟨g1106, 1, none⟩ = false := blk_fz (HS.out.at3) 1; have hc1113 : w1107.cell? ⟨g1106, 2, none⟩ = some (.int .i64 0) := blk_cellv (HS.out.at3) 2 rfl; have hz1114 : w1107.frozen? ⟨g1106, 2, none⟩ = false := blk_fz (HS.out.at3) 2) | ((with_reducible refine gate_store (t := 134) (p := 5) rfl ?_); refine store_event (w1 := (World.setCell (World.setCell (World.setCell w1107 ⟨g1106, 0, none⟩ (.int .i64 t1103.1)) ⟨g1106, 1, none⟩ (.int .i64 t1103.2.1)) ⟨g1106, 2, none⟩ (.int .i64 t1103.2.2.1))) rfl (t := 134) (p := 5) rfl rfl ?hr ?_; (case hr => first | (go_simp; done) | (go_simp; rfl)); intro w1115 hst; clear hc1109 hz1110 hc1111 hz1112 hc1113 hz1114; replace HS : Aside0 (Sep FF w [b7 g890 g892 a900 a901 a902 a903, b6 g892 A895 l894.length n897 a899, r5 A895 l894.length n897 l894, b8 g1106 t1103.1 t1103.2.1 t1103.2.2.1] w1115) := ⟨by rw [hst]; exact HS.out.setAll (l1 := [b7 g890 g892 a900 a901 a902 a903, b6 g892 A895 l894.length n897 a899, r5 A895 l894.length n897 l894]) (l2 := []) [.int .i64 t1103.1, .int .i64 t1103.2.1, .int .i64 t1103.2.2.1] rfl⟩; clear hst; replace HS : Aside0 (Sep FF w [b7 g890 g892 a900 a901 a902 a903, b6 g892 A895 l894.length n897 a899, r5 A895 l894.length n897 l894] w1115) := ⟨HS.out.sub (.cons_cons _ (.cons_cons _ (.cons_cons _ (.cons _ .slnil))))⟩))
    go_ret
    rw [← some_eq H]
    exact ⟨(by first | rfl | (simp [IntKind.wrap_u32]; done)), HS.out⟩

set_option maxHeartbeats 30000000 in
set_option maxRecDepth 100000 in
theorem ground_Ground_Conf.calls (l1134 : List Int) (a1139 : Int) (a1140 : Int) (a1141 : Int) (a1142 : Int) (a1143 : Int) (g1130 : Nat) (g1132 : Nat) (A1135 : Option Addr) (m1136 : Nat) (n1137 : Nat) (r : Int × Int × Int × Int) (w : World)   (HS : Aside0 (Sep (fps [b7 g1130 g1132 a1140 a1141 a1142 a1143, b6 g1132 A1135 m1136 n1137 a1139, r5 A1135 m1136 n1137 l1134]) w [b7 g1130 g1132 a1140 a1141 a1142 a1143, b6 g1132 A1135 m1136 n1137 a1139, r5 A1135 m1136 n1137 l1134] w)) (H : Aside0 (ground_Ground_Conf.f l1134 a1139 a1140 a1141 a1142 a1143 = some r)) :
    Calls Try.prog 39 #[.pointer (some ⟨g1130, 0, none⟩)] w fun e w' => e = .returned (.agg #[.int .i64 r.1, .int .i64 r.2.1, .int .i64 r.2.2.1, .int .i64 r.2.2.2]) ∧ Sep (fps [b7 g1130 g1132 a1140 a1141 a1142 a1143, b6 g1132 A1135 m1136 n1137 a1139, r5 A1135 m1136 n1137 l1134]) w [b7 g1130 g1132 a1140 a1141 a1142 a1143, b6 g1132 A1135 m1136 n1137 a1139, r5 A1135 m1136 n1137 l1134] w' := by
  generalize (fps [b7 g1130 g1132 a1140 a1141 a1142 a1143, b6 g1132 A1135 m1136 n1137 a1139, r5 A1135 m1136 n1137 l1134]) = FF at HS ⊢
  obtain rfl := (row_len (HS.out.at2)).symm
  unfold ground_Ground_Conf.f at H
  go_enter Try.func39, Try.ntmps39
  go_wp2_with (first | ((with_reducible refine gate_dst (N := 2) rfl ?_); refine box_on ?hg (N := 2) ?hd (cs := #[.int .i64 0, .int .i64 0, .int .i64 0, .int .i64 0]) (t := 49) ?hr ?_; (case hd => rfl); (case hg => rfl); (case hr => first | (go_simp; done) | (go_simp; rfl)); intro g1144 hg w1145 hbox hb; replace HS : Aside0 (Sep FF w [b7 g1130 g1132 a1140 a1141 a1142 a1143, b6 g1132 A1135 l1134.length n1137 a1139, r5 A1135 l1134.length n1137 l1134, b1 g1144 0 0 0 0] w1145) := ⟨HS.out.box hg hbox hb⟩; clear hg hbox hb; have hc1147 : w1145.cell? ⟨g1130, 1, none⟩ = some (.int .i64 a1140) := blk_cellv (HS.out.at0) 1 rfl; have hc1148 : w1145.cell? ⟨g1130, 2, none⟩ = some (.int .i64 a1141) := blk_cellv (HS.out.at0) 2 rfl; have hc1149 : w1145.cell? ⟨g1130, 3, none⟩ = some (.int .i64 a1142) := blk_cellv (HS.out.at0) 3 rfl; have hc1150 : w1145.cell? ⟨g1130, 4, none⟩ = some (.int .i64 a1143) := blk_cellv (HS.out.at0) 4 rfl; have hc1151 : w1145.cell? ⟨g1144, 0, none⟩ = some (.int .i64 0) := blk_cellv (HS.out.at3) 0 rfl; have hz1152 : w1145.frozen? ⟨g1144, 0, none⟩ = false := blk_fz (HS.out.at3) 0; have hc1153 : w1145.cell? ⟨g1144, 1, none⟩ = some (.int .i64 0) := blk_cellv (HS.out.at3) 1 rfl; have hz1154 : w1145.frozen? ⟨g1144, 1, none⟩ = false := blk_fz (HS.out.at3) 1; have hc1155 : w1145.cell? ⟨g1144, 2, none⟩ = some (.int .i64 0) := blk_cellv (HS.out.at3) 2 rfl; have hz1156 : w1145.frozen? ⟨g1144, 2, none⟩ = false := blk_fz (HS.out.at3) 2; have hc1157 : w1145.cell? ⟨g1144, 3, none⟩ = some (.int .i64 0) := blk_cellv (HS.out.at3) 3 rfl; have hz1158 : w1145.frozen? ⟨g1144, 3, none⟩ = false := blk_fz (HS.out.at3) 3) | ((with_reducible refine gate_store (t := 49) (p := 2) rfl ?_); refine store_event (w1 := (World.setCell (World.setCell (World.setCell (World.setCell w1145 ⟨g1144, 0, none⟩ (.int .i64 a1140)) ⟨g1144, 1, none⟩ (.int .i64 a1141)) ⟨g1144, 2, none⟩ (.int .i64 a1142)) ⟨g1144, 3, none⟩ (.int .i64 a1143))) rfl (t := 49) (p := 2) rfl rfl ?hr ?_; (case hr => first | (go_simp; done) | (go_simp; rfl)); intro w1159 hst; clear hc1147 hc1148 hc1149 hc1150 hc1151 hz1152 hc1153 hz1154 hc1155 hz1156 hc1157 hz1158; replace HS : Aside0 (Sep FF w [b7 g1130 g1132 a1140 a1141 a1142 a1143, b6 g1132 A1135 l1134.length n1137 a1139, r5 A1135 l1134.length n1137 l1134, b1 g1144 a1140 a1141 a1142 a1143] w1159) := ⟨by rw [hst]; exact HS.out.setAll (l1 := [b7 g1130 g1132 a1140 a1141 a1142 a1143, b6 g1132 A1135 l1134.length n1137 a1139, r5 A1135 l1134.length n1137 l1134]) (l2 := []) [.int .i64 a1140, .int .i64 a1141, .int .i64 a1142, .int .i64 a1143] rfl⟩; clear hst))
  have hc1160 : w1159.cell? ⟨g1144, 0, none⟩ = some (.int .i64 a1140) := blk_cellv (HS.out.at3) 0 rfl
  have hc1161 : w1159.cell? ⟨g1144, 1, none⟩ = some (.int .i64 a1141) := blk_cellv (HS.out.at3) 1 rfl
  have hc1162 : w1159.cell? ⟨g1144, 2, none⟩ = some (.int .i64 a1142) := blk_cellv (HS.out.at3) 2 rfl
  have hc1163 : w1159.cell? ⟨g1144, 3, none⟩ = some (.int .i64 a1143) := blk_cellv (HS.out.at3) 3 rfl
  refine bodyPost_ret (v := .agg #[.int .i64 a1140, .int .i64 a1141, .int .i64 a1142, .int .i64 a1143]) (by simp [results, Try.results39, go_sem, hc1160, hc1161, hc1162, hc1163]) rfl ?_
  rw [← some_eq H]
  exact ⟨(by first | rfl | (simp [IntKind.wrap_u32]; done)), HS.out.sub (.cons_cons _ (.cons_cons _ (.cons_cons _ (.cons _ .slnil))))⟩

set_option maxHeartbeats 30000000 in
set_option maxRecDepth 100000 in
theorem ground_Ground_word.calls (l1305 : List Int) (a1310 : Int) (a1311 : Int) (a1312 : Int) (a1313 : Int) (a1314 : Int) (a1315 : Int) (a1316 : Int) (g1301 : Nat) (g1303 : Nat) (A1306 : Option Addr) (m1307 : Nat) (n1308 : Nat) (r : Int) (w : World)   (HS : Aside0 (Sep (fps [b7 g1301 g1303 a1311 a1312 a1313 a1314, b6 g1303 A1306 m1307 n1308 a1310, r5 A1306 m1307 n1308 l1305]) w [b7 g1301 g1303 a1311 a1312 a1313 a1314, b6 g1303 A1306 m1307 n1308 a1310, r5 A1306 m1307 n1308 l1305] w)) (H : Aside0 (ground_Ground_word.f l1305 a1310 a1311 a1312 a1313 a1314 a1315 a1316 = some r)) :
    Calls Try.prog 87 #[.pointer (some ⟨g1301, 0, none⟩), .int .i64 a1315, .int .i64 a1316] w fun e w' => e = .returned (.int .i64 r) ∧ Sep (fps [b7 g1301 g1303 a1311 a1312 a1313 a1314, b6 g1303 A1306 m1307 n1308 a1310, r5 A1306 m1307 n1308 l1305]) w [b7 g1301 g1303 a1311 a1312 a1313 a1314, b6 g1303 A1306 m1307 n1308 a1310, r5 A1306 m1307 n1308 l1305] w' := by
  generalize (fps [b7 g1301 g1303 a1311 a1312 a1313 a1314, b6 g1303 A1306 m1307 n1308 a1310, r5 A1306 m1307 n1308 l1305]) = FF at HS ⊢
  obtain rfl := (row_len (HS.out.at2)).symm
  unfold ground_Ground_word.f at H
  go_enter Try.func87, Try.ntmps87
  go_wp2_with fail
  obtain ⟨t1317, HA1318, H⟩ := bind_some H
  refine (ground_Ground_Conf.calls l1305 a1310 a1311 a1312 a1313 a1314 g1301 g1303 A1306 l1305.length n1308 t1317 _ ⟨HS.out.begin⟩ HA1318).mono ?_
  rintro e_ w1319 ⟨rfl, hS⟩
  replace HS : Aside0 (Sep FF w [b7 g1301 g1303 a1311 a1312 a1313 a1314, b6 g1303 A1306 l1305.length n1308 a1310, r5 A1306 l1305.length n1308 l1305] w1319) := ⟨HS.out.call hS⟩
  clear hS
  go_wp2_with (first | ((with_reducible refine gate_dst (N := 7) rfl ?_); refine box_on ?hg (N := 7) ?hd (cs := #[.int .i64 0, .int .i64 0, .int .i64 0, .int .i64 0]) (t := 49) ?hr ?_; (case hd => rfl); (case hg => rfl); (case hr => first | (go_simp; done) | (go_simp; rfl)); intro g1320 hg w1321 hbox hb; replace HS : Aside0 (Sep FF w [b7 g1301 g1303 a1311 a1312 a1313 a1314, b6 g1303 A1306 l1305.length n1308 a1310, r5 A1306 l1305.length n1308 l1305, b1 g1320 0 0 0 0] w1321) := ⟨HS.out.box hg hbox hb⟩; clear hg hbox hb; have hc1323 : w1321.cell? ⟨g1320, 0, none⟩ = some (.int .i64 0) := blk_cellv (HS.out.at3) 0 rfl; have hz1324 : w1321.frozen? ⟨g1320, 0, none⟩ = false := blk_fz (HS.out.at3) 0; have hc1325 : w1321.cell? ⟨g1320, 1, none⟩ = some (.int .i64 0) := blk_cellv (HS.out.at3) 1 rfl; have hz1326 : w1321.frozen? ⟨g1320, 1, none⟩ = false := blk_fz (HS.out.at3) 1; have hc1327 : w1321.cell? ⟨g1320, 2, none⟩ = some (.int .i64 0) := blk_cellv (HS.out.at3) 2 rfl; have hz1328 : w1321.frozen? ⟨g1320, 2, none⟩ = false := blk_fz (HS.out.at3) 2; have hc1329 : w1321.cell? ⟨g1320, 3, none⟩ = some (.int .i64 0) := blk_cellv (HS.out.at3) 3 rfl; have hz1330 : w1321.frozen? ⟨g1320, 3, none⟩ = false := blk_fz (HS.out.at3) 3) | ((with_reducible refine gate_store (t := 49) (p := 7) rfl ?_); refine store_event (w1 := (World.setCell (World.setCell (World.setCell (World.setCell w1321 ⟨g1320, 0, none⟩ (.int .i64 t1317.1)) ⟨g1320, 1, none⟩ (.int .i64 t1317.2.1)) ⟨g1320, 2, none⟩ (.int .i64 t1317.2.2.1)) ⟨g1320, 3, none⟩ (.int .i64 t1317.2.2.2))) rfl (t := 49) (p := 7) rfl rfl ?hr ?_; (case hr => first | (go_simp; done) | (go_simp; rfl)); intro w1331 hst; clear hc1323 hz1324 hc1325 hz1326 hc1327 hz1328 hc1329 hz1330; replace HS : Aside0 (Sep FF w [b7 g1301 g1303 a1311 a1312 a1313 a1314, b6 g1303 A1306 l1305.length n1308 a1310, r5 A1306 l1305.length n1308 l1305, b1 g1320 t1317.1 t1317.2.1 t1317.2.2.1 t1317.2.2.2] w1331) := ⟨by rw [hst]; exact HS.out.setAll (l1 := [b7 g1301 g1303 a1311 a1312 a1313 a1314, b6 g1303 A1306 l1305.length n1308 a1310, r5 A1306 l1305.length n1308 l1305]) (l2 := []) [.int .i64 t1317.1, .int .i64 t1317.2.1, .int .i64 t1317.2.2.1, .int .i64 t1317.2.2.2] rfl⟩; clear hst; have hc1332 : w1331.cell? ⟨g1320, 0, none⟩ = some (.int .i64 t1317.1) := blk_cellv (HS.out.at3) 0 rfl))
  clear hc1332
  obtain ⟨t1333, HA1334, H⟩ := bind_some H
  refine (ground_within.calls a1315 t1317.1 0 t1333 _ ⟨Sep.start _⟩ HA1334).mono ?_
  rintro e_ w1335 ⟨rfl, hS⟩
  replace HS : Aside0 (Sep FF w [b7 g1301 g1303 a1311 a1312 a1313 a1314, b6 g1303 A1306 l1305.length n1308 a1310, r5 A1306 l1305.length n1308 l1305, b1 g1320 t1317.1 t1317.2.1 t1317.2.2.1 t1317.2.2.2] w1335) := ⟨HS.out.call hS⟩
  clear hS
  by_cases c1336 : t1333 = (-1)
  · replace H := if_yes c1336 H
    have c1336b0 : (t1333 == (-1)) = true := beq_iff_eq.mpr c1336
    have c1336b1 : (t1333 != (-1)) = false := bne_eq_false_iff_eq.mpr c1336
    clear c1336
    replace HS : Aside0 (Sep FF w [b7 g1301 g1303 a1311 a1312 a1313 a1314, b6 g1303 A1306 l1305.length n1308 a1310, r5 A1306 l1305.length n1308 l1305] w1335) := ⟨HS.out.sub (.cons_cons _ (.cons_cons _ (.cons_cons _ (.cons _ .slnil))))⟩
    go_wp2_with fail
    go_ret
    rw [← some_eq H]
    exact ⟨(by first | rfl | (simp [IntKind.wrap_u32]; done)), HS.out⟩
  · replace H := if_no c1336 H
    have c1336b0 : (t1333 == (-1)) = false := beq_eq_false_iff_ne.mpr c1336
    have c1336b1 : (t1333 != (-1)) = true := bne_iff_ne.mpr c1336
    clear c1336
    have hc1337 : w1335.cell? ⟨g1320, 1, none⟩ = some (.int .i64 t1317.2.1) := blk_cellv (HS.out.at3) 1 rfl
    have hc1338 : w1335.cell? ⟨g1320, 2, none⟩ = some (.int .i64 t1317.2.2.1) := blk_cellv (HS.out.at3) 2 rfl
    go_wp2_with fail
    clear hc1337 hc1338
    obtain ⟨t1339, HA1340, H⟩ := bind_some H
    refine (ground_within.calls a1316 t1317.2.1 (wrap64 ((wrap64 (24 + t1317.2.2.1)) + (wrap64 (a1315 * t1317.2.1)))) t1339 _ ⟨Sep.start _⟩ HA1340).mono ?_
    rintro e_ w1341 ⟨rfl, hS⟩
    replace HS : Aside0 (Sep FF w [b7 g1301 g1303 a1311 a1312 a1313 a1314, b6 g1303 A1306 l1305.length n1308 a1310, r5 A1306 l1305.length n1308 l1305, b1 g1320 t1317.1 t1317.2.1 t1317.2.2.1 t1317.2.2.2] w1341) := ⟨HS.out.call hS⟩
    clear hS
    replace HS : Aside0 (Sep FF w [b7 g1301 g1303 a1311 a1312 a1313 a1314, b6 g1303 A1306 l1305.length n1308 a1310, r5 A1306 l1305.length n1308 l1305] w1341) := ⟨HS.out.sub (.cons_cons _ (.cons_cons _ (.cons_cons _ (.cons _ .slnil))))⟩
    go_wp2_with fail
    go_ret
    rw [← some_eq H]
    exact ⟨(by first | rfl | (simp [IntKind.wrap_u32]; done)), HS.out⟩

set_option maxHeartbeats 30000000 in
set_option maxRecDepth 100000 in
theorem store_Store_Put.calls (l1348 : List Int) (a1353 : Int) (a1354 : Int) (a1355 : Int) (g1346 : Nat) (A1349 : Option Addr) (m1350 : Nat) (n1351 : Nat) (r : Bool × Int × List Int) (w : World)   (HS : Aside0 (Sep (fps [b6 g1346 A1349 m1350 n1351 a1353, r5 A1349 m1350 n1351 l1348]) w [b6 g1346 A1349 m1350 n1351 a1353, r5 A1349 m1350 n1351 l1348] w)) (H : Aside0 (store_Store_Put.f l1348 a1353 a1354 a1355 = some r)) :
    Calls Try.prog 22 #[.pointer (some ⟨g1346, 0, none⟩), .int .i64 a1354, .int .u32 a1355] w fun e w' => e = .returned (.bool r.1) ∧ Sep (fps [b6 g1346 A1349 m1350 n1351 a1353, r5 A1349 m1350 n1351 l1348]) w [b6 g1346 A1349 m1350 n1351 r.2.1, r5 A1349 m1350 n1351 r.2.2] w' := by
  generalize (fps [b6 g1346 A1349 m1350 n1351 a1353, r5 A1349 m1350 n1351 l1348]) = FF at HS ⊢
  obtain rfl := (row_len (HS.out.at1)).symm
  unfold store_Store_Put.f at H
  go_enter Try.func22, Try.ntmps22
  go_wp2_with fail
  obtain ⟨t1372, HA1373, H⟩ := bind_some H
  refine (store_Store_has.calls l1348 a1353 a1354 g1346 A1349 l1348.length n1351 t1372 _ ⟨HS.out.begin⟩ HA1373).mono ?_
  rintro e_ w1374 ⟨rfl, hS⟩
  replace HS : Aside0 (Sep FF w [b6 g1346 A1349 l1348.length n1351 a1353, r5 A1349 l1348.length n1351 l1348] w1374) := ⟨HS.out.call hS⟩
  clear hS
  by_cases c1375 : t1372 = true
  · replace H := if_yes c1375 H
    have c1375b0 : t1372 = true := c1375
    have c1375b1 : (!t1372) = false := by rw [c1375b0]; rfl
    try rw [c1375b1]
    clear c1375
    go_wp2_with fail
    obtain ⟨t1376, HA1377, H⟩ := bind_some H
    refine (atomic_Uint64_Add.calls l1348 a1353 1 g1346 A1349 l1348.length n1351 t1376 _ ⟨HS.out.begin⟩ HA1377).mono ?_
    rintro e_ w1378 ⟨rfl, hS⟩
    replace HS : Aside0 (Sep FF w [b6 g1346 A1349 l1348.length n1351 t1376.2, r5 A1349 l1348.length n1351 l1348] w1378) := ⟨HS.out.call hS⟩
    clear hS
    by_cases c1380 : 0 ≤ a1354
    · replace H := if_yes c1380 H
      have c1380b0 : decide (0 ≤ a1354) = true := decide_eq_true c1380
      have c1380p : (0 ≤ a1354) = True := eq_true c1380
      clear c1380
      by_cases c1381 : a1354 < (l1348.length : Int)
      · replace H := if_yes c1381 H
        have c1381b0 : decide (a1354 < (l1348.length : Int)) = true := decide_eq_true c1381
        have c1381p : (a1354 < (l1348.length : Int)) = True := eq_true c1381
        clear c1381
        obtain ⟨y1384, HA1385, H⟩ := bind_some H
        have hc1379 : w1378.cell? ⟨g1346, 0, none⟩ = some (.slice A1349 l1348.length n1351) := blk_cellv (HS.out.at0) 0 rfl
        obtain ⟨g1382, ea⟩ := row_at (HS.out.at1) (by have := (of_decide_eq_true c1380b0); have := (of_decide_eq_true c1381b0); omega); cases ea
        have hx1386 := (row_get 0 (HS.out.at1) a1354 (of_decide_eq_true c1380b0) (of_decide_eq_true c1381b0)).1
        have hz1387 := (row_get 0 (HS.out.at1) a1354 (of_decide_eq_true c1380b0) (of_decide_eq_true c1381b0)).2
        go_wp2_with (first | ((with_reducible refine gate_store (t := 23) (p := 21) rfl ?_); refine store_event (w1 := World.setCell w1378 ⟨g1382, (a1354).toNat, none⟩ (.int .u32 a1355)) rfl (t := 23) (p := 21) rfl rfl ?hr ?_; (case hr => first | (go_simp; done) | (go_simp; rfl)); intro w1383 hst; clear hc1379 hx1386 hz1387; have hq := Sep.rowset (l1 := [b6 g1346 (some ⟨g1382, 0, none⟩) l1348.length n1351 t1376.2]) (l2 := []) HS.out a1354 a1355; rw [← hst, some_eq HA1385] at hq; replace HS : Aside0 (Sep FF w [b6 g1346 (some ⟨g1382, 0, none⟩) l1348.length n1351 t1376.2, r5 (some ⟨g1382, 0, none⟩) l1348.length n1351 y1384] w1383) := ⟨hq⟩; clear hst hq))
        go_ret
        rw [← some_eq H]
        exact ⟨(by first | rfl | (simp [IntKind.wrap_u32]; done)), HS.out⟩
      · replace H := if_no c1381 H
        have c1381b0 : decide (a1354 < (l1348.length : Int)) = false := decide_eq_false c1381
        clear c1381
        exact (none_no H).elim
    · replace H := if_no c1380 H
      have c1380b0 : decide (0 ≤ a1354) = false := decide_eq_false c1380
      clear c1380
      exact (none_no H).elim
  · replace H := if_no c1375 H
    have c1375b0 : t1372 = false := by simpa using c1375
    have c1375b1 : (!t1372) = true := by rw [c1375b0]; rfl
    try rw [c1375b1]
    clear c1375
    go_wp2_with fail
    go_ret
    rw [← some_eq H]
    exact ⟨(by first | rfl | (simp [IntKind.wrap_u32]; done)), HS.out⟩

set_option maxHeartbeats 30000000 in
set_option maxRecDepth 100000 in
theorem ground_Ground_SetWord.calls (l1284 : List Int) (a1289 : Int) (a1290 : Int) (a1291 : Int) (a1292 : Int) (a1293 : Int) (a1294 : Int) (a1295 : Int) (a1296 : Int) (g1280 : Nat) (g1282 : Nat) (A1285 : Option Addr) (m1286 : Nat) (n1287 : Nat) (r : Bool × Int × List Int) (w : World)   (HS : Aside0 (Sep (fps [b7 g1280 g1282 a1290 a1291 a1292 a1293, b6 g1282 A1285 m1286 n1287 a1289, r5 A1285 m1286 n1287 l1284]) w [b7 g1280 g1282 a1290 a1291 a1292 a1293, b6 g1282 A1285 m1286 n1287 a1289, r5 A1285 m1286 n1287 l1284] w)) (H : Aside0 (ground_Ground_SetWord.f l1284 a1289 a1290 a1291 a1292 a1293 a1294 a1295 a1296 = some r)) :
    Calls Try.prog 46 #[.pointer (some ⟨g1280, 0, none⟩), .int .i64 a1294, .int .i64 a1295, .int .u32 a1296] w fun e w' => e = .returned (.bool r.1) ∧ Sep (fps [b7 g1280 g1282 a1290 a1291 a1292 a1293, b6 g1282 A1285 m1286 n1287 a1289, r5 A1285 m1286 n1287 l1284]) w [b7 g1280 g1282 a1290 a1291 a1292 a1293, b6 g1282 A1285 m1286 n1287 r.2.1, r5 A1285 m1286 n1287 r.2.2] w' := by
  generalize (fps [b7 g1280 g1282 a1290 a1291 a1292 a1293, b6 g1282 A1285 m1286 n1287 a1289, r5 A1285 m1286 n1287 l1284]) = FF at HS ⊢
  obtain rfl := (row_len (HS.out.at2)).symm
  unfold ground_Ground_SetWord.f at H
  go_enter Try.func46, Try.ntmps46
  go_wp2_with fail
  obtain ⟨t1391, HA1392, H⟩ := bind_some H
  refine (ground_Ground_all.calls l1284 a1289 a1290 a1291 a1292 a1293 g1280 g1282 A1285 l1284.length n1287 t1391 _ ⟨HS.out.begin⟩ HA1392).mono ?_
  rintro e_ w1393 ⟨rfl, hS⟩
  replace HS : Aside0 (Sep FF w [b7 g1280 g1282 a1290 a1291 a1292 a1293, b6 g1282 A1285 l1284.length n1287 a1289, r5 A1285 l1284.length n1287 l1284] w1393) := ⟨HS.out.call hS⟩
  clear hS
  go_wp2_with fail
  obtain ⟨t1394, HA1395, H⟩ := bind_some H
  refine (ground_Ground_word.calls l1284 a1289 a1290 a1291 a1292 a1293 a1294 a1295 g1280 g1282 A1285 l1284.length n1287 t1394 _ ⟨HS.out.begin⟩ HA1395).mono ?_
  rintro e_ w1396 ⟨rfl, hS⟩
  replace HS : Aside0 (Sep FF w [b7 g1280 g1282 a1290 a1291 a1292 a1293, b6 g1282 A1285 l1284.length n1287 a1289, r5 A1285 l1284.length n1287 l1284] w1396) := ⟨HS.out.call hS⟩
  clear hS
  go_wp2_with fail
  replace HS : Aside0 (Sep FF w [r5 A1285 l1284.length n1287 l1284, b7 g1280 g1282 a1290 a1291 a1292 a1293, b6 g1282 A1285 l1284.length n1287 a1289] w1396) := ⟨HS.out.front 2 (by simp)⟩
  replace HS : Aside0 (Sep FF w [b6 g1282 A1285 l1284.length n1287 a1289, r5 A1285 l1284.length n1287 l1284, b7 g1280 g1282 a1290 a1291 a1292 a1293] w1396) := ⟨HS.out.front 2 (by simp)⟩
  obtain ⟨t1397, HA1398, H⟩ := bind_some H
  refine (store_Store_Put.calls l1284 a1289 t1394 a1296 g1282 A1285 l1284.length n1287 t1397 _ ⟨HS.out.begin⟩ HA1398).mono ?_
  rintro e_ w1399 ⟨rfl, hS⟩
  replace HS : Aside0 (Sep FF w [b6 g1282 A1285 l1284.length n1287 t1397.2.1, r5 A1285 l1284.length n1287 t1397.2.2, b7 g1280 g1282 a1290 a1291 a1292 a1293] w1399) := ⟨HS.out.call hS⟩
  clear hS
  go_wp2_with fail
  go_ret
  rw [← some_eq H]
  exact ⟨(by first | rfl | (simp [IntKind.wrap_u32]; done)), ((((HS.out).front 1 (by simp)).front 1 (by simp)).front 2 (by simp)).keep (l := [b7 g1280 g1282 a1290 a1291 a1292 a1293, b6 g1282 A1285 l1284.length n1287 t1397.2.1, r5 A1285 l1284.length n1287 t1397.2.2]) (rest := [])⟩

set_option maxHeartbeats 30000000 in
set_option maxRecDepth 100000 in
theorem ground_Ground_set.calls (l1431 : List Int) (a1436 : Int) (a1437 : Int) (a1438 : Int) (a1439 : Int) (a1440 : Int) (a1441 : Int) (a1442 : Int) (g1427 : Nat) (g1429 : Nat) (A1432 : Option Addr) (m1433 : Nat) (n1434 : Nat) (r : Bool × Int × List Int) (w : World)   (HS : Aside0 (Sep (fps [b7 g1427 g1429 a1437 a1438 a1439 a1440, b6 g1429 A1432 m1433 n1434 a1436, r5 A1432 m1433 n1434 l1431]) w [b7 g1427 g1429 a1437 a1438 a1439 a1440, b6 g1429 A1432 m1433 n1434 a1436, r5 A1432 m1433 n1434 l1431] w)) (H : Aside0 (ground_Ground_set.f l1431 a1436 a1437 a1438 a1439 a1440 a1441 a1442 = some r)) :
    Calls Try.prog 85 #[.pointer (some ⟨g1427, 0, none⟩), .int .i64 a1441, .int .i64 a1442] w fun e w' => e = .returned (.bool r.1) ∧ Sep (fps [b7 g1427 g1429 a1437 a1438 a1439 a1440, b6 g1429 A1432 m1433 n1434 a1436, r5 A1432 m1433 n1434 l1431]) w [b7 g1427 g1429 a1437 a1438 a1439 a1440, b6 g1429 A1432 m1433 n1434 r.2.1, r5 A1432 m1433 n1434 r.2.2] w' := by
  generalize (fps [b7 g1427 g1429 a1437 a1438 a1439 a1440, b6 g1429 A1432 m1433 n1434 a1436, r5 A1432 m1433 n1434 l1431]) = FF at HS ⊢
  obtain rfl := (row_len (HS.out.at2)).symm
  unfold ground_Ground_set.f at H
  go_enter Try.func85, Try.ntmps85
  by_cases c1451 : a1442 < 0
  · replace H := if_yes c1451 H
    have c1451b0 : decide (a1442 < 0) = true := decide_eq_true c1451
    clear c1451
    go_wp2_with fail
    go_ret
    rw [← some_eq H]
    exact ⟨(by first | rfl | (simp [IntKind.wrap_u32]; done)), HS.out⟩
  · replace H := if_no c1451 H
    have c1451b0 : decide (a1442 < 0) = false := decide_eq_false c1451
    clear c1451
    by_cases c1452 : a1442 > 4294967295
    · replace H := if_yes c1452 H
      have c1452b0 : decide (4294967295 < a1442) = true := decide_eq_true c1452
      clear c1452
      go_wp2_with fail
      go_ret
      rw [← some_eq H]
      exact ⟨(by first | rfl | (simp [IntKind.wrap_u32]; done)), HS.out⟩
    · replace H := if_no c1452 H
      have c1452b0 : decide (4294967295 < a1442) = false := decide_eq_false c1452
      clear c1452
      go_wp2_with fail
      obtain ⟨t1453, HA1454, H⟩ := bind_some H
      refine (ground_Ground_all.calls l1431 a1436 a1437 a1438 a1439 a1440 g1427 g1429 A1432 l1431.length n1434 t1453 _ ⟨HS.out.begin⟩ HA1454).mono ?_
      rintro e_ w1455 ⟨rfl, hS⟩
      replace HS : Aside0 (Sep FF w [b7 g1427 g1429 a1437 a1438 a1439 a1440, b6 g1429 A1432 l1431.length n1434 a1436, r5 A1432 l1431.length n1434 l1431] w1455) := ⟨HS.out.call hS⟩
      clear hS
      go_wp2_with fail
      replace HS : Aside0 (Sep FF w [r5 A1432 l1431.length n1434 l1431, b7 g1427 g1429 a1437 a1438 a1439 a1440, b6 g1429 A1432 l1431.length n1434 a1436] w1455) := ⟨HS.out.front 2 (by simp)⟩
      replace HS : Aside0 (Sep FF w [b6 g1429 A1432 l1431.length n1434 a1436, r5 A1432 l1431.length n1434 l1431, b7 g1427 g1429 a1437 a1438 a1439 a1440] w1455) := ⟨HS.out.front 2 (by simp)⟩
      obtain ⟨t1456, HA1457, H⟩ := bind_some H
      refine (store_Store_Put.calls l1431 a1436 a1441 ((a1442) % 4294967296) g1429 A1432 l1431.length n1434 t1456 _ ⟨HS.out.begin⟩ HA1457).mono ?_
      rintro e_ w1458 ⟨rfl, hS⟩
      replace HS : Aside0 (Sep FF w [b6 g1429 A1432 l1431.length n1434 t1456.2.1, r5 A1432 l1431.length n1434 t1456.2.2, b7 g1427 g1429 a1437 a1438 a1439 a1440] w1458) := ⟨HS.out.call hS⟩
      clear hS
      go_wp2_with fail
      go_ret
      rw [← some_eq H]
      exact ⟨(by first | rfl | (simp [IntKind.wrap_u32]; done)), ((((HS.out).front 1 (by simp)).front 1 (by simp)).front 2 (by simp)).keep (l := [b7 g1427 g1429 a1437 a1438 a1439 a1440, b6 g1429 A1432 l1431.length n1434 t1456.2.1, r5 A1432 l1431.length n1434 t1456.2.2]) (rest := [])⟩

set_option maxHeartbeats 30000000 in
set_option maxRecDepth 100000 in
theorem ground_Ground_SetReg.calls (l1411 : List Int) (a1416 : Int) (a1417 : Int) (a1418 : Int) (a1419 : Int) (a1420 : Int) (a1421 : Int) (a1422 : Int) (g1407 : Nat) (g1409 : Nat) (A1412 : Option Addr) (m1413 : Nat) (n1414 : Nat) (r : Bool × Int × List Int) (w : World)   (HS : Aside0 (Sep (fps [b7 g1407 g1409 a1417 a1418 a1419 a1420, b6 g1409 A1412 m1413 n1414 a1416, r5 A1412 m1413 n1414 l1411]) w [b7 g1407 g1409 a1417 a1418 a1419 a1420, b6 g1409 A1412 m1413 n1414 a1416, r5 A1412 m1413 n1414 l1411] w)) (H : Aside0 (ground_Ground_SetReg.f l1411 a1416 a1417 a1418 a1419 a1420 a1421 a1422 = some r)) :
    Calls Try.prog 42 #[.pointer (some ⟨g1407, 0, none⟩), .int .i64 a1421, .int .i64 a1422] w fun e w' => e = .returned (.bool r.1) ∧ Sep (fps [b7 g1407 g1409 a1417 a1418 a1419 a1420, b6 g1409 A1412 m1413 n1414 a1416, r5 A1412 m1413 n1414 l1411]) w [b7 g1407 g1409 a1417 a1418 a1419 a1420, b6 g1409 A1412 m1413 n1414 r.2.1, r5 A1412 m1413 n1414 r.2.2] w' := by
  generalize (fps [b7 g1407 g1409 a1417 a1418 a1419 a1420, b6 g1409 A1412 m1413 n1414 a1416, r5 A1412 m1413 n1414 l1411]) = FF at HS ⊢
  obtain rfl := (row_len (HS.out.at2)).symm
  unfold ground_Ground_SetReg.f at H
  go_enter Try.func42, Try.ntmps42
  go_wp2_with fail
  obtain ⟨t1462, HA1463, H⟩ := bind_some H
  refine (ground_reg.calls a1421 t1462 _ ⟨Sep.start _⟩ HA1463).mono ?_
  rintro e_ w1464 ⟨rfl, hS⟩
  replace HS : Aside0 (Sep FF w [b7 g1407 g1409 a1417 a1418 a1419 a1420, b6 g1409 A1412 l1411.length n1414 a1416, r5 A1412 l1411.length n1414 l1411] w1464) := ⟨HS.out.call hS⟩
  clear hS
  go_wp2_with fail
  obtain ⟨t1465, HA1466, H⟩ := bind_some H
  refine (ground_Ground_set.calls l1411 a1416 a1417 a1418 a1419 a1420 t1462 a1422 g1407 g1409 A1412 l1411.length n1414 t1465 _ ⟨HS.out.begin⟩ HA1466).mono ?_
  rintro e_ w1467 ⟨rfl, hS⟩
  replace HS : Aside0 (Sep FF w [b7 g1407 g1409 a1417 a1418 a1419 a1420, b6 g1409 A1412 l1411.length n1414 t1465.2.1, r5 A1412 l1411.length n1414 t1465.2.2] w1467) := ⟨HS.out.call hS⟩
  clear hS
  go_wp2_with fail
  go_ret
  rw [← some_eq H]
  exact ⟨(by first | rfl | (simp [IntKind.wrap_u32]; done)), HS.out⟩

set_option maxHeartbeats 30000000 in
set_option maxRecDepth 100000 in
theorem chain_Add_1.calls (a1249 : Int) (a1250 : Int) (a1251 : Int) (a1252 : Int) (a1253 : Int) (l1261 : List Int) (a1266 : Int) (a1267 : Int) (a1268 : Int) (a1269 : Int) (a1270 : Int) (a1273 : Int) (g1255 : Nat) (g1257 : Nat) (g1259 : Nat) (A1262 : Option Addr) (m1263 : Nat) (n1264 : Nat) (g1272 : Nat) (r : Int × List Int) (w : World)   (HS : Aside0 (Sep (fps [b9 g1255 g1257, b7 g1257 g1259 a1267 a1268 a1269 a1270, b6 g1259 A1262 m1263 n1264 a1266, r5 A1262 m1263 n1264 l1261, b10 g1272 a1273]) w [b9 g1255 g1257, b7 g1257 g1259 a1267 a1268 a1269 a1270, b6 g1259 A1262 m1263 n1264 a1266, r5 A1262 m1263 n1264 l1261, b10 g1272 a1273] w)) (H : Aside0 (chain_Add_1.f a1249 a1250 a1251 a1252 a1253 l1261 a1266 a1267 a1268 a1269 a1270 a1273 = some r)) :
    Calls Try.prog 89 #[.agg #[.int .i64 a1249, .int .i64 a1250, .int .i64 a1251], .int .i64 a1252, .int .i64 a1253, .pointer (some ⟨g1255, 0, none⟩), .pointer (some ⟨g1272, 0, none⟩)] w fun e w' => e = .returned (.tuple #[]) ∧ Sep (fps [b9 g1255 g1257, b7 g1257 g1259 a1267 a1268 a1269 a1270, b6 g1259 A1262 m1263 n1264 a1266, r5 A1262 m1263 n1264 l1261, b10 g1272 a1273]) w [b9 g1255 g1257, b7 g1257 g1259 a1267 a1268 a1269 a1270, b6 g1259 A1262 m1263 n1264 r.1, r5 A1262 m1263 n1264 r.2, b10 g1272 a1273] w' := by
  generalize (fps [b9 g1255 g1257, b7 g1257 g1259 a1267 a1268 a1269 a1270, b6 g1259 A1262 m1263 n1264 a1266, r5 A1262 m1263 n1264 l1261, b10 g1272 a1273]) = FF at HS ⊢
  obtain rfl := (row_len (HS.out.at3)).symm
  unfold chain_Add_1.f at H
  go_enter Try.func89, Try.ntmps89
  go_wp2_with (first | ((with_reducible refine gate_dst (N := 5) rfl ?_); refine box_on ?hg (N := 5) ?hd (cs := #[.int .i64 a1249, .int .i64 a1250, .int .i64 a1251]) (t := 134) ?hr ?_; (case hd => rfl); (case hg => rfl); (case hr => first | (go_simp; done) | (go_simp; rfl)); intro g1476 hg w1477 hbox hb; replace HS : Aside0 (Sep FF w [b9 g1255 g1257, b7 g1257 g1259 a1267 a1268 a1269 a1270, b6 g1259 A1262 l1261.length n1264 a1266, r5 A1262 l1261.length n1264 l1261, b10 g1272 a1273, b8 g1476 a1249 a1250 a1251] w1477) := ⟨HS.out.box hg hbox hb⟩; clear hg hbox hb; have hc1479 : w1477.cell? ⟨g1255, 0, none⟩ = some (.pointer (some ⟨g1257, 0, none⟩)) := blk_cellv (HS.out.at0) 0 rfl; have hc1480 : w1477.cell? ⟨g1272, 0, none⟩ = some (.int .i64 a1273) := blk_cellv (HS.out.at4) 0 rfl))
  clear hc1479 hc1480
  replace HS : Aside0 (Sep FF w [r5 A1262 l1261.length n1264 l1261, b9 g1255 g1257, b7 g1257 g1259 a1267 a1268 a1269 a1270, b6 g1259 A1262 l1261.length n1264 a1266, b10 g1272 a1273, b8 g1476 a1249 a1250 a1251] w1477) := ⟨HS.out.front 3 (by simp)⟩
  replace HS : Aside0 (Sep FF w [b6 g1259 A1262 l1261.length n1264 a1266, r5 A1262 l1261.length n1264 l1261, b9 g1255 g1257, b7 g1257 g1259 a1267 a1268 a1269 a1270, b10 g1272 a1273, b8 g1476 a1249 a1250 a1251] w1477) := ⟨HS.out.front 3 (by simp)⟩
  replace HS : Aside0 (Sep FF w [b7 g1257 g1259 a1267 a1268 a1269 a1270, b6 g1259 A1262 l1261.length n1264 a1266, r5 A1262 l1261.length n1264 l1261, b9 g1255 g1257, b10 g1272 a1273, b8 g1476 a1249 a1250 a1251] w1477) := ⟨HS.out.front 3 (by simp)⟩
  obtain ⟨t1481, HA1482, H⟩ := bind_some H
  refine (ground_Ground_SetWord.calls l1261 a1266 a1267 a1268 a1269 a1270 a1273 5 0 g1257 g1259 A1262 l1261.length n1264 t1481 _ ⟨HS.out.begin⟩ HA1482).mono ?_
  rintro e_ w1483 ⟨rfl, hS⟩
  replace HS : Aside0 (Sep FF w [b7 g1257 g1259 a1267 a1268 a1269 a1270, b6 g1259 A1262 l1261.length n1264 t1481.2.1, r5 A1262 l1261.length n1264 t1481.2.2, b9 g1255 g1257, b10 g1272 a1273, b8 g1476 a1249 a1250 a1251] w1483) := ⟨HS.out.call hS⟩
  clear hS
  by_cases c1484 : a1253 = 0
  · replace H := if_yes c1484 H
    have c1484b0 : (a1253 == 0) = true := beq_iff_eq.mpr c1484
    have c1484b1 : (a1253 != 0) = false := bne_eq_false_iff_eq.mpr c1484
    clear c1484
    have hc1485 : w1483.cell? ⟨g1255, 0, none⟩ = some (.pointer (some ⟨g1257, 0, none⟩)) := blk_cellv (HS.out.at3) 0 rfl
    have hc1486 : w1483.cell? ⟨g1476, 0, none⟩ = some (.int .i64 a1249) := blk_cellv (HS.out.at5) 0 rfl
    go_wp2_with fail
    clear hc1485 hc1486
    obtain ⟨t1487, HA1488, H⟩ := bind_some H
    refine (ground_Ground_SetReg.calls t1481.2.2 t1481.2.1 a1267 a1268 a1269 a1270 a1249 a1252 g1257 g1259 A1262 l1261.length n1264 t1487 _ ⟨HS.out.begin⟩ HA1488).mono ?_
    rintro e_ w1489 ⟨rfl, hS⟩
    replace HS : Aside0 (Sep FF w [b7 g1257 g1259 a1267 a1268 a1269 a1270, b6 g1259 A1262 l1261.length n1264 t1487.2.1, r5 A1262 l1261.length n1264 t1487.2.2, b9 g1255 g1257, b10 g1272 a1273, b8 g1476 a1249 a1250 a1251] w1489) := ⟨HS.out.call hS⟩
    clear hS
    have hc1490 : w1489.cell? ⟨g1255, 0, none⟩ = some (.pointer (some ⟨g1257, 0, none⟩)) := blk_cellv (HS.out.at3) 0 rfl
    have hc1491 : w1489.cell? ⟨g1476, 1, none⟩ = some (.int .i64 a1250) := blk_cellv (HS.out.at5) 1 rfl
    go_wp2_with fail
    clear hc1490 hc1491
    obtain ⟨t1492, HA1493, H⟩ := bind_some H
    refine (ground_Ground_SetReg.calls t1487.2.2 t1487.2.1 a1267 a1268 a1269 a1270 a1250 a1252 g1257 g1259 A1262 l1261.length n1264 t1492 _ ⟨HS.out.begin⟩ HA1493).mono ?_
    rintro e_ w1494 ⟨rfl, hS⟩
    replace HS : Aside0 (Sep FF w [b7 g1257 g1259 a1267 a1268 a1269 a1270, b6 g1259 A1262 l1261.length n1264 t1492.2.1, r5 A1262 l1261.length n1264 t1492.2.2, b9 g1255 g1257, b10 g1272 a1273, b8 g1476 a1249 a1250 a1251] w1494) := ⟨HS.out.call hS⟩
    clear hS
    replace HS : Aside0 (Sep FF w [b7 g1257 g1259 a1267 a1268 a1269 a1270, b6 g1259 A1262 l1261.length n1264 t1492.2.1, r5 A1262 l1261.length n1264 t1492.2.2, b9 g1255 g1257, b10 g1272 a1273] w1494) := ⟨HS.out.sub (.cons_cons _ (.cons_cons _ (.cons_cons _ (.cons_cons _ (.cons_cons _ (.cons _ .slnil))))))⟩
    go_wp2_with fail
    first | go_end0 | refine bodyPost_ret (results_none rfl _ _ _) rfl ?_
    rw [← some_eq H]
    exact ⟨rfl, ((((((HS.out).front 4 (by simp)).front 3 (by simp)).front 3 (by simp)).front 3 (by simp)).front 4 (by simp)).keep (l := [b9 g1255 g1257, b7 g1257 g1259 a1267 a1268 a1269 a1270, b6 g1259 A1262 l1261.length n1264 t1492.2.1, r5 A1262 l1261.length n1264 t1492.2.2, b10 g1272 a1273]) (rest := [])⟩
  · replace H := if_no c1484 H
    have c1484b0 : (a1253 == 0) = false := beq_eq_false_iff_ne.mpr c1484
    have c1484b1 : (a1253 != 0) = true := bne_iff_ne.mpr c1484
    clear c1484
    go_wp2_with fail
    refine start_ (n := 9) (S := (fun w' => w'.cell? ⟨g1255, 0, none⟩ = some (.pointer (some ⟨g1257, 0, none⟩)) ∧ w'.cell? ⟨g1476, 1, none⟩ = some (.int .i64 a1250))) (ds := []) #[false, false, false, false, false, false, false, false, false] (by kernel_rfl) rfl rfl (⟨blk_cellv ((HS.out.drew).at3) 0 rfl, blk_cellv ((HS.out.drew).at5) 1 rfl⟩) (fun hHeld => ?_)
    have HS_ := Aside0.mk HS.out.drew
    clear HS
    generalize World.drew _ = w1496 at HS_ hHeld ⊢
    have HS := HS_
    clear HS_
    refine pure_ (i := 2) (N := some 20) (v := ?_) (a' := ?_) #[false, false, true, false, false, false, false, false, false] rfl rfl (by kernel_rfl) (fun _ _ _ h => h) (Or.inl ⟨by rfl, ?_⟩) ?_ ?_
    rotate_left
    · intro w'
      go_simp
      with_reducible rfl
    rotate_left
    · simp only [Act.put, List.setIfInBounds_toArray, List.set_cons_zero, List.set_cons_succ, i64_w, i32_w]
      rfl
    refine pure_ (i := 6) (N := some 24) (v := ?_) (a' := ?_) #[false, false, true, false, false, false, true, false, false] rfl rfl (by kernel_rfl) (fun _ _ _ h => h) (Or.inl ⟨by rfl, ?_⟩) ?_ ?_
    rotate_left
    · intro w'
      go_simp
      with_reducible rfl
    rotate_left
    · simp only [Act.put, List.setIfInBounds_toArray, List.set_cons_zero, List.set_cons_succ, i64_w, i32_w]
      rfl
    refine pure_ (i := 7) (N := some 25) (v := ?_) (a' := ?_) #[false, false, true, false, false, false, true, true, false] rfl rfl (by kernel_rfl) (fun _ _ _ h => h) (Or.inl ⟨by rfl, ?_⟩) ?_ ?_
    rotate_left
    · intro w'
      go_simp
      with_reducible rfl
    rotate_left
    · simp only [Act.put, List.setIfInBounds_toArray, List.set_cons_zero, List.set_cons_succ, i64_w, i32_w]
      rfl
    refine take_ (i := 0) (N := some 18) (v := ?_) (a' := ?_) #[true, false, true, false, false, false, true, true, false] rfl rfl (by kernel_rfl) (fun _ _ _ h => h) (Or.inl ⟨by rfl, ?_⟩) hHeld ?_ ?_
    rotate_left
    · rintro w' hS'
      obtain ⟨s0, s1⟩ := hS'
      go_simp
      with_reducible rfl
    rotate_left
    · simp only [Act.put, List.setIfInBounds_toArray, List.set_cons_zero, List.set_cons_succ, i64_w, i32_w]
      rfl
    refine take_ (i := 1) (N := some 19) (v := ?_) (a' := ?_) #[true, true, true, false, false, false, true, true, false] rfl rfl (by kernel_rfl) (fun _ _ _ h => h) (Or.inl ⟨by rfl, ?_⟩) hHeld ?_ ?_
    rotate_left
    · rintro w' hS'
      obtain ⟨s0, s1⟩ := hS'
      go_simp
      with_reducible rfl
    rotate_left
    · simp only [Act.put, List.setIfInBounds_toArray, List.set_cons_zero, List.set_cons_succ, i64_w, i32_w]
      rfl
    refine take_ (i := 3) (N := some 21) (v := ?_) (a' := ?_) #[true, true, true, true, false, false, true, true, false] rfl rfl (by kernel_rfl) (fun _ _ _ h => h) (Or.inl ⟨by rfl, ?_⟩) hHeld ?_ ?_
    rotate_left
    · rintro w' hS'
      obtain ⟨s0, s1⟩ := hS'
      go_simp
      with_reducible rfl
    rotate_left
    · simp only [Act.put, List.setIfInBounds_toArray, List.set_cons_zero, List.set_cons_succ, i64_w, i32_w]
      rfl
    refine one_ (i := 4) (N := some 22) #[true, true, true, true, true, false, true, true, false] rfl rfl (by kernel_rfl) (by decide) (fun K hK => ?_)
    obtain ⟨t1497, HA1498, H⟩ := bind_some H
    refine goes_ Try.func36 (by kernel_rfl) rfl #[.pointer (some ⟨g1257, 0, none⟩), .int .i64 a1250] (by rfl) rfl rfl (by (try simp only [List.map_toArray, List.map_cons, List.map_nil]); first | done | rfl) ?_
    refine (ground_Ground_Reg.calls t1481.2.2 t1481.2.1 a1267 a1268 a1269 a1270 a1250 g1257 g1259 A1262 l1261.length n1264 t1497 _ ⟨HS.out.begin⟩ HA1498).mono ?_
    rintro e_ w1499 ⟨rfl, hS⟩
    replace HS : Aside0 (Sep FF w [b7 g1257 g1259 a1267 a1268 a1269 a1270, b6 g1259 A1262 l1261.length n1264 t1497.2, r5 A1262 l1261.length n1264 t1481.2.2, b9 g1255 g1257, b10 g1272 a1273, b8 g1476 a1249 a1250 a1251] w1499) := ⟨HS.out.call hS⟩
    clear hS
    refine ⟨_, rfl, ?_⟩
    refine hK.out _ _ (⟨blk_cellv (HS.out.at3) 0 rfl, blk_cellv (HS.out.at5) 1 rfl⟩) (fun hHeld => ?_)
    clear hK K
    refine norm_ (a' := ?_) ?_ ?_
    rotate_left
    · show Act.put _ (some 22) _ = _
      simp only [Act.put, List.setIfInBounds_toArray, List.set_cons_zero, List.set_cons_succ, i64_w, i32_w]
      rfl
    refine pure_ (i := 5) (N := some 23) (v := ?_) (a' := ?_) #[true, true, true, true, true, true, true, true, false] rfl rfl (by kernel_rfl) (fun _ _ _ h => h) (Or.inl ⟨by rfl, ?_⟩) ?_ ?_
    rotate_left
    · intro w'
      go_simp
      with_reducible rfl
    rotate_left
    · simp only [Act.put, List.setIfInBounds_toArray, List.set_cons_zero, List.set_cons_succ, i64_w, i32_w]
      rfl
    refine one_ (i := 8) (N := some 26) #[true, true, true, true, true, true, true, true, true] rfl rfl (by kernel_rfl) (by decide) (fun K hK => ?_)
    obtain ⟨t1500, HA1501, H⟩ := bind_some H
    refine goes_ Try.func46 (by kernel_rfl) rfl #[.pointer (some ⟨g1257, 0, none⟩), .int .i64 (wrap64 (t1497.1 - 1)), .int .i64 5, .int .u32 ((a1252) % 4294967296)] (by rfl) rfl rfl (by (try simp only [List.map_toArray, List.map_cons, List.map_nil]); first | done | rfl) ?_
    refine (ground_Ground_SetWord.calls t1481.2.2 t1497.2 a1267 a1268 a1269 a1270 (wrap64 (t1497.1 - 1)) 5 ((a1252) % 4294967296) g1257 g1259 A1262 l1261.length n1264 t1500 _ ⟨HS.out.begin⟩ HA1501).mono ?_
    rintro e_ w1502 ⟨rfl, hS⟩
    replace HS : Aside0 (Sep FF w [b7 g1257 g1259 a1267 a1268 a1269 a1270, b6 g1259 A1262 l1261.length n1264 t1500.2.1, r5 A1262 l1261.length n1264 t1500.2.2, b9 g1255 g1257, b10 g1272 a1273, b8 g1476 a1249 a1250 a1251] w1502) := ⟨HS.out.call hS⟩
    clear hS
    refine ⟨_, rfl, ?_⟩
    refine hK.out _ _ (⟨blk_cellv (HS.out.at3) 0 rfl, blk_cellv (HS.out.at5) 1 rfl⟩) (fun hHeld => ?_)
    clear hK K
    refine norm_ (a' := ?_) ?_ ?_
    rotate_left
    · show Act.put _ (some 26) _ = _
      simp only [Act.put, List.setIfInBounds_toArray, List.set_cons_zero, List.set_cons_succ, i64_w, i32_w]
      rfl
    refine done_ (by kernel_rfl) ?_
    have hc1503 : w1502.cell? ⟨g1255, 0, none⟩ = some (.pointer (some ⟨g1257, 0, none⟩)) := blk_cellv (HS.out.at3) 0 rfl
    have hc1504 : w1502.cell? ⟨g1476, 1, none⟩ = some (.int .i64 a1250) := blk_cellv (HS.out.at5) 1 rfl
    go_wp2_with fail
    clear hc1503 hc1504
    obtain ⟨t1492, HA1505, H⟩ := bind_some H
    refine (ground_Ground_SetReg.calls t1500.2.2 t1500.2.1 a1267 a1268 a1269 a1270 a1250 a1252 g1257 g1259 A1262 l1261.length n1264 t1492 _ ⟨HS.out.begin⟩ HA1505).mono ?_
    rintro e_ w1506 ⟨rfl, hS⟩
    replace HS : Aside0 (Sep FF w [b7 g1257 g1259 a1267 a1268 a1269 a1270, b6 g1259 A1262 l1261.length n1264 t1492.2.1, r5 A1262 l1261.length n1264 t1492.2.2, b9 g1255 g1257, b10 g1272 a1273, b8 g1476 a1249 a1250 a1251] w1506) := ⟨HS.out.call hS⟩
    clear hS
    replace HS : Aside0 (Sep FF w [b7 g1257 g1259 a1267 a1268 a1269 a1270, b6 g1259 A1262 l1261.length n1264 t1492.2.1, r5 A1262 l1261.length n1264 t1492.2.2, b9 g1255 g1257, b10 g1272 a1273] w1506) := ⟨HS.out.sub (.cons_cons _ (.cons_cons _ (.cons_cons _ (.cons_cons _ (.cons_cons _ (.cons _ .slnil))))))⟩
    go_wp2_with fail
    first | go_end0 | refine bodyPost_ret (results_none rfl _ _ _) rfl ?_
    rw [← some_eq H]
    exact ⟨rfl, ((((((HS.out).front 4 (by simp)).front 3 (by simp)).front 3 (by simp)).front 3 (by simp)).front 4 (by simp)).keep (l := [b9 g1255 g1257, b7 g1257 g1259 a1267 a1268 a1269 a1270, b6 g1259 A1262 l1261.length n1264 t1492.2.1, r5 A1262 l1261.length n1264 t1492.2.2, b10 g1272 a1273]) (rest := [])⟩
end Go.Proofs.Ytobeonkddamnoaa.C

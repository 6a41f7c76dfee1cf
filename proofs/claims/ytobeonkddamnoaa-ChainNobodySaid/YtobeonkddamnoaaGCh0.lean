/- Each function of the group Ch does what its plain function says, and changes nothing that was there; proved by walking its code. No condition. -/
import Derived.Test.YtobeonkddamnoaaQw
import Derived.Test.YtobeonkddamnoaaMCh
namespace Go.Proofs.Ytobeonkddamnoaa.C
open Go.RowKit Go.Proofs.YtobeonkddamnoaaW.PrintWords Go.Proofs.YtobeonkddamnoaaW.PrintLast Go.Proofs.YtobeonkddamnoaaW.PrintMore Go.Proofs.Ytobeonkddamnoaa.Q Go.Proofs.Ytobeonkddamnoaa.M
set_option linter.unusedVariables false
set_option linter.unusedSimpArgs false
def b1 (g : Nat) (x0 : Int) (x1 : Int) (x2 : Int) (x3 : Int) : Ob := blk g #[.int .i64 x0, .int .i64 x1, .int .i64 x2, .int .i64 x3] 49
def b2 (g : Nat) (x0 : Int) (x1 : Int) (x2 : Int) (x3 : Int) (x4 : Int) (x5 : Int) (x6 : Int) (x7 : Int) : Ob := blk g #[.int .i64 x0, .int .i64 x1, .int .i64 x2, .int .i64 x3, .int .i64 x4, .int .i64 x5, .int .i64 x6, .int .i64 x7] 120
def b3 (g : Nat) (x0 : Int) (x1 : Int) : Ob := blk g #[.int .i64 x0, .int .i64 x1] 3
def b4 (g : Nat) (x0 : Int) (x1 : Int) (x2 : Int) : Ob := blk g #[.int .i64 x0, .int .i64 x1, .int .i64 x2] 3
def r5 (A : Option Addr) (n c : Nat) (l : List Int) : Ob := row 23 (Value.int .u32) (.slice A n c) l
def b6 (g : Nat) (x0 : Option Addr) (x1 : Nat) (x2 : Nat) (x3 : Int) : Ob := blk g #[.slice x0 x1 x2, .int .u64 x3] 115
def b7 (g : Nat) (x0 : Nat) (x1 : Int) (x2 : Int) (x3 : Int) (x4 : Int) : Ob := blk g #[.pointer (some ⟨x0, 0, none⟩), .int .i64 x1, .int .i64 x2, .int .i64 x3, .int .i64 x4] 126
def b8 (g : Nat) (x0 : Int) (x1 : Int) (x2 : Int) : Ob := blk g #[.int .i64 x0, .int .i64 x1, .int .i64 x2] 134
def b9 (g : Nat)  : Ob := blk g #[.pointer none] 50
def b10 (g : Nat) (x0 : Int) : Ob := blk g #[.int .i64 x0] 3
def r11 (A : Option Addr) (n c : Nat) (l : List Int) : Ob := row 3 (Value.int .i64) (.slice A n c) l
def b12 (g : Nat) (x0 : Nat) : Ob := blk g #[.pointer (some ⟨x0, 0, none⟩)] 50

set_option maxHeartbeats 30000000 in
set_option maxRecDepth 100000 in
theorem ratio_Clamp.calls (a39 : Int) (a40 : Int) (a41 : Int) (r : Int) (w : World)   (HS : Aside0 (Sep (fps []) w [] w)) (H : Aside0 (ratio_Clamp.f a39 a40 a41 = some r)) :
    Calls Try.prog 123 #[.int .i64 a39, .int .i64 a40, .int .i64 a41] w fun e w' => e = .returned (.int .i64 r) ∧ Sep (fps []) w [] w' := by
  unfold ratio_Clamp.f at H
  go_enter Try.func123, Try.ntmps123
  by_cases c42 : a39 > a41
  · have H := if_yes c42 H
    have c42b0 : decide (a41 < a39) = true := decide_eq_true c42
    clear c42
    go_wp2_with fail
    go_ret
    rw [← some_eq H]
    exact ⟨(by first | rfl | (simp [IntKind.wrap_u32]; done)), (HS.out).keep (l := []) (rest := [])⟩
  · have H := if_no c42 H
    have c42b0 : decide (a41 < a39) = false := decide_eq_false c42
    clear c42
    by_cases c43 : a39 < a40
    · have H := if_yes c43 H
      have c43b0 : decide (a39 < a40) = true := decide_eq_true c43
      skip
      go_wp2_with fail
      clear c43
      go_ret
      rw [← some_eq H]
      exact ⟨(by first | rfl | (simp [IntKind.wrap_u32]; done)), (HS.out).keep (l := []) (rest := [])⟩
    · have H := if_no c43 H
      have c43b0 : decide (a39 < a40) = false := decide_eq_false c43
      skip
      go_wp2_with fail
      clear c43
      go_ret
      rw [← some_eq H]
      exact ⟨(by first | rfl | (simp [IntKind.wrap_u32]; done)), (HS.out).keep (l := []) (rest := [])⟩

set_option maxHeartbeats 30000000 in
set_option maxRecDepth 100000 in
theorem plan_within.calls (a36 : Int) (a37 : Int) (a38 : Int) (r : Bool) (w : World)   (HS : Aside0 (Sep (fps []) w [] w)) (H : Aside0 (plan_within.f a36 a37 a38 = some r)) :
    Calls Try.prog 115 #[.int .i64 a36, .int .i64 a37, .int .i64 a38] w fun e w' => e = .returned (.bool r) ∧ Sep (fps []) w [] w' := by
  unfold plan_within.f at H
  go_enter Try.func115, Try.ntmps115
  go_wp2_with fail
  obtain ⟨t44, HA45, H⟩ := bind_some H
  refine (ratio_Clamp.calls a36 a37 a38 t44 _ ⟨HS.out.begin (l := []) (rest := [])⟩ HA45).mono ?_
  rintro e_ w46 ⟨rfl, hS⟩
  replace HS : Aside0 (Sep (fps []) w [] w46) := ⟨HS.out.call (l := []) (rest := []) hS⟩
  clear hS
  go_wp2_with fail
  go_ret
  rw [← some_eq H]
  exact ⟨(by first | rfl | (simp [IntKind.wrap_u32]; done)), (HS.out).keep (l := []) (rest := [])⟩

set_option maxHeartbeats 30000000 in
set_option maxRecDepth 100000 in
theorem plan_Check.calls (a28 : Int) (a29 : Int) (a30 : Int) (a31 : Int) (r : Int) (w : World)   (HS : Aside0 (Sep (fps []) w [] w)) (H : Aside0 (plan_Check.f a28 a29 a30 a31 = some r)) :
    Calls Try.prog 105 #[.agg #[.int .i64 a28, .int .i64 a29, .int .i64 a30, .int .i64 a31]] w fun e w' => e = .returned (.int .i64 r) ∧ Sep (fps []) w [] w' := by
  unfold plan_Check.f at H
  go_enter Try.func105, Try.ntmps105
  go_wp2_with (first | ((with_reducible refine gate_dst (N := 1) rfl ?_); refine box_on ?hg (N := 1) ?hd (cs := #[.int .i64 a28, .int .i64 a29, .int .i64 a30, .int .i64 a31]) (t := 49) ?hr ?_; (case hd => rfl); (case hg => rfl); (case hr => first | (go_simp; done) | (go_simp; rfl)); intro g32 hg w33 hbox hb; replace HS : Aside0 (Sep (fps []) w [b1 g32 a28 a29 a30 a31] w33) := ⟨HS.out.box hg hbox hb⟩; clear hg hbox hb; have hc35 : w33.cell? ⟨g32, 0, none⟩ = some (.int .i64 a28) := blk_cellv (HS.out.at0) 0 rfl))
  clear hc35
  obtain ⟨t47, HA48, H⟩ := bind_some H
  refine (plan_within.calls a28 1 1048576 t47 _ ⟨HS.out.begin (l := []) (rest := [b1 g32 a28 a29 a30 a31])⟩ HA48).mono ?_
  rintro e_ w49 ⟨rfl, hS⟩
  replace HS : Aside0 (Sep (fps []) w [b1 g32 a28 a29 a30 a31] w49) := ⟨HS.out.call (l := []) (rest := [b1 g32 a28 a29 a30 a31]) hS⟩
  clear hS
  by_cases c50 : t47 = true
  · have H := if_yes c50 H
    have c50b0 : t47 = true := c50
    have c50b1 : (!t47) = false := by rw [c50b0]; rfl
    clear c50
    have hc51 : w49.cell? ⟨g32, 1, none⟩ = some (.int .i64 a29) := blk_cellv (HS.out.at0) 1 rfl
    go_wp2_with fail
    clear hc51
    obtain ⟨t52, HA53, H⟩ := bind_some H
    refine (plan_within.calls a29 16 256 t52 _ ⟨HS.out.begin (l := []) (rest := [b1 g32 a28 a29 a30 a31])⟩ HA53).mono ?_
    rintro e_ w54 ⟨rfl, hS⟩
    replace HS : Aside0 (Sep (fps []) w [b1 g32 a28 a29 a30 a31] w54) := ⟨HS.out.call (l := []) (rest := [b1 g32 a28 a29 a30 a31]) hS⟩
    clear hS
    by_cases c55 : t52 = true
    · have H := if_yes c55 H
      have c55b0 : t52 = true := c55
      have c55b1 : (!t52) = false := by rw [c55b0]; rfl
      clear c55
      have hc56 : w54.cell? ⟨g32, 2, none⟩ = some (.int .i64 a30) := blk_cellv (HS.out.at0) 2 rfl
      go_wp2_with fail
      clear hc56
      obtain ⟨t57, HA58, H⟩ := bind_some H
      refine (plan_within.calls a30 1 4096 t57 _ ⟨HS.out.begin (l := []) (rest := [b1 g32 a28 a29 a30 a31])⟩ HA58).mono ?_
      rintro e_ w59 ⟨rfl, hS⟩
      replace HS : Aside0 (Sep (fps []) w [b1 g32 a28 a29 a30 a31] w59) := ⟨HS.out.call (l := []) (rest := [b1 g32 a28 a29 a30 a31]) hS⟩
      clear hS
      by_cases c60 : t57 = true
      · have H := if_yes c60 H
        have c60b0 : t57 = true := c60
        have c60b1 : (!t57) = false := by rw [c60b0]; rfl
        clear c60
        have hc61 : w59.cell? ⟨g32, 3, none⟩ = some (.int .i64 a31) := blk_cellv (HS.out.at0) 3 rfl
        go_wp2_with fail
        clear hc61
        obtain ⟨t62, HA63, H⟩ := bind_some H
        refine (plan_within.calls a31 1 65536 t62 _ ⟨HS.out.begin (l := []) (rest := [b1 g32 a28 a29 a30 a31])⟩ HA63).mono ?_
        rintro e_ w64 ⟨rfl, hS⟩
        replace HS : Aside0 (Sep (fps []) w [b1 g32 a28 a29 a30 a31] w64) := ⟨HS.out.call (l := []) (rest := [b1 g32 a28 a29 a30 a31]) hS⟩
        clear hS
        by_cases c65 : t62 = true
        · have H := if_yes c65 H
          have c65b0 : t62 = true := c65
          have c65b1 : (!t62) = false := by rw [c65b0]; rfl
          clear c65
          by_cases c68 : (wrap64 (a28 * a29)) ≤ 4194304
          · have H := if_yes c68 H
            have c68b0 : decide ((wrap64 (a28 * a29)) ≤ 4194304) = true := decide_eq_true c68
            clear c68
            have hc66 : w64.cell? ⟨g32, 0, none⟩ = some (.int .i64 a28) := blk_cellv (HS.out.at0) 0 rfl
            have hc67 : w64.cell? ⟨g32, 1, none⟩ = some (.int .i64 a29) := blk_cellv (HS.out.at0) 1 rfl
            replace HS : Aside0 (Sep (fps []) w [] w64) := ⟨HS.out.sub (.cons _ .slnil)⟩
            go_wp2_with fail
            clear hc66 hc67
            go_ret
            rw [← some_eq H]
            exact ⟨(by first | rfl | (simp [IntKind.wrap_u32]; done)), (HS.out).keep (l := []) (rest := [])⟩
          · have H := if_no c68 H
            have c68b0 : decide ((wrap64 (a28 * a29)) ≤ 4194304) = false := decide_eq_false c68
            clear c68
            have hc66 : w64.cell? ⟨g32, 0, none⟩ = some (.int .i64 a28) := blk_cellv (HS.out.at0) 0 rfl
            have hc67 : w64.cell? ⟨g32, 1, none⟩ = some (.int .i64 a29) := blk_cellv (HS.out.at0) 1 rfl
            replace HS : Aside0 (Sep (fps []) w [] w64) := ⟨HS.out.sub (.cons _ .slnil)⟩
            go_wp2_with fail
            clear hc66 hc67
            go_ret
            rw [← some_eq H]
            exact ⟨(by first | rfl | (simp [IntKind.wrap_u32]; done)), (HS.out).keep (l := []) (rest := [])⟩
        · have H := if_no c65 H
          have c65b0 : t62 = false := by simpa using c65
          have c65b1 : (!t62) = true := by rw [c65b0]; rfl
          clear c65
          replace HS : Aside0 (Sep (fps []) w [] w64) := ⟨HS.out.sub (.cons _ .slnil)⟩
          go_wp2_with fail
          go_ret
          rw [← some_eq H]
          exact ⟨(by first | rfl | (simp [IntKind.wrap_u32]; done)), (HS.out).keep (l := []) (rest := [])⟩
      · have H := if_no c60 H
        have c60b0 : t57 = false := by simpa using c60
        have c60b1 : (!t57) = true := by rw [c60b0]; rfl
        clear c60
        replace HS : Aside0 (Sep (fps []) w [] w59) := ⟨HS.out.sub (.cons _ .slnil)⟩
        go_wp2_with fail
        go_ret
        rw [← some_eq H]
        exact ⟨(by first | rfl | (simp [IntKind.wrap_u32]; done)), (HS.out).keep (l := []) (rest := [])⟩
    · have H := if_no c55 H
      have c55b0 : t52 = false := by simpa using c55
      have c55b1 : (!t52) = true := by rw [c55b0]; rfl
      clear c55
      replace HS : Aside0 (Sep (fps []) w [] w54) := ⟨HS.out.sub (.cons _ .slnil)⟩
      go_wp2_with fail
      go_ret
      rw [← some_eq H]
      exact ⟨(by first | rfl | (simp [IntKind.wrap_u32]; done)), (HS.out).keep (l := []) (rest := [])⟩
  · have H := if_no c50 H
    have c50b0 : t47 = false := by simpa using c50
    have c50b1 : (!t47) = true := by rw [c50b0]; rfl
    clear c50
    replace HS : Aside0 (Sep (fps []) w [] w49) := ⟨HS.out.sub (.cons _ .slnil)⟩
    go_wp2_with fail
    go_ret
    rw [← some_eq H]
    exact ⟨(by first | rfl | (simp [IntKind.wrap_u32]; done)), (HS.out).keep (l := []) (rest := [])⟩

set_option maxHeartbeats 30000000 in
set_option maxRecDepth 100000 in
theorem ratio_counts.calls (a101 : Int) (r : Int) (w : World)   (HS : Aside0 (Sep (fps []) w [] w)) (H : Aside0 (ratio_counts.f a101 = some r)) :
    Calls Try.prog 116 #[.int .i64 a101] w fun e w' => e = .returned (.int .i64 r) ∧ Sep (fps []) w [] w' := by
  unfold ratio_counts.f at H
  go_enter Try.func116, Try.ntmps116
  go_wp2_with fail
  obtain ⟨t102, HA103, H⟩ := bind_some H
  refine (ratio_Clamp.calls a101 0 1125899906842624 t102 _ ⟨HS.out.begin (l := []) (rest := [])⟩ HA103).mono ?_
  rintro e_ w104 ⟨rfl, hS⟩
  replace HS : Aside0 (Sep (fps []) w [] w104) := ⟨HS.out.call (l := []) (rest := []) hS⟩
  clear hS
  go_wp2_with fail
  go_ret
  rw [← some_eq H]
  exact ⟨(by first | rfl | (simp [IntKind.wrap_u32]; done)), (HS.out).keep (l := []) (rest := [])⟩

set_option maxHeartbeats 30000000 in
set_option maxRecDepth 100000 in
theorem ratio_zero.calls (a100 : Int) (r : Bool) (w : World)   (HS : Aside0 (Sep (fps []) w [] w)) (H : Aside0 (ratio_zero.f a100 = some r)) :
    Calls Try.prog 118 #[.int .i64 a100] w fun e w' => e = .returned (.bool r) ∧ Sep (fps []) w [] w' := by
  unfold ratio_zero.f at H
  go_enter Try.func118, Try.ntmps118
  go_wp2_with fail
  obtain ⟨t105, HA106, H⟩ := bind_some H
  refine (ratio_counts.calls a100 t105 _ ⟨HS.out.begin (l := []) (rest := [])⟩ HA106).mono ?_
  rintro e_ w107 ⟨rfl, hS⟩
  replace HS : Aside0 (Sep (fps []) w [] w107) := ⟨HS.out.call (l := []) (rest := []) hS⟩
  clear hS
  go_wp2_with fail
  go_ret
  rw [← some_eq H]
  exact ⟨(by first | rfl | (simp [IntKind.wrap_u32]; done)), (HS.out).keep (l := []) (rest := [])⟩

set_option maxHeartbeats 30000000 in
set_option maxRecDepth 100000 in
theorem slices_IndexFunc_int_int_F118.calls (k : Nat) (l86 : List Int) (A87 : Option Addr) (n88 : Nat) (r : Int) (w : World) (HR89 : Aside0 (Rd (Kd.int .i64) (fps []) w A87 l86.length l86))  (HS : Aside0 (Sep (fps []) w [] w)) (H : Aside0 (slices_IndexFunc_int_int_F118.f k l86 = some r)) :
    Calls Try.prog 124 #[.slice A87 l86.length n88, .func (.func 118) #[] #[]] w fun e w' => e = .returned (.int .i64 r) ∧ Sep (fps []) w [] w' := by
  unfold slices_IndexFunc_int_int_F118.f at H
  go_enter Try.func124, Try.ntmps124
  go_wp2_with fail
  obtain ⟨o112, AL113, H⟩ := bind_some H
  go_loopg [8] k (fun kq v8 wc => ∃ (x116 : Int), v8 = .int .i64 x116 ∧ Aside0 (slices_IndexFunc_int_int_F118.lo0 kq l86 x116 = some o112) ∧ Aside0 (Sep (fps []) w [] wc))
  case atStart => exact ⟨(0), (by first | rfl | (simp [IntKind.wrap_u32]; done)), AL113, ⟨HS.out⟩⟩
  case round =>
    clear AL113 HS
    obtain ⟨x116, rfl, AL113, HS⟩ := hrel
    obtain ⟨w114, rfl⟩ : ∃ x : World, x = wr := ⟨_, rfl⟩
    cases gk with
    | zero => exact absurd AL113.out (by simp [slices_IndexFunc_int_int_F118.lo0])
    | succ k115 =>
      have AL0 := AL113.out
      rw [slices_IndexFunc_int_int_F118.lo0] at AL0
      clear AL113
      have AL113 := Aside0.mk AL0
      clear AL0
      by_cases c117 : x116 < (l86.length : Int)
      · have AL113 := if_yes c117 AL113
        have c117b0 : decide (x116 < (l86.length : Int)) = true := decide_eq_true c117
        clear c117
        by_cases c118 : 0 ≤ x116
        · have AL113 := if_yes c118 AL113
          have c118b0 : decide (0 ≤ x116) = true := decide_eq_true c118
          have c118p : (0 ≤ x116) = True := eq_true c118
          clear c118
          have ip119 : (x116 < (l86.length : Int)) = True := eq_true (of_decide_eq_true c117b0)
          obtain ⟨hx120a, hx120e, hx120⟩ := Kd.at_int (Rd.read (fun _ _ _ _ h => h) HR89.out HS.out.fr) x116 (of_decide_eq_true c118b0) (of_decide_eq_true c117b0); cases hx120e
          go_wp2_with fail
          clear hx120
          obtain ⟨t108, HA121, AL113⟩ := bind_some AL113
          refine (ratio_zero.calls (rd l86 x116) t108 _ ⟨HS.out.begin (l := []) (rest := [])⟩ HA121).mono ?_
          rintro e_ w122 ⟨rfl, hS⟩
          replace HS : Aside0 (Sep (fps []) w [] w122) := ⟨HS.out.call (l := []) (rest := []) hS⟩
          clear hS
          by_cases c123 : t108 = true
          · have AL113 := if_yes c123 AL113
            have c123b0 : t108 = true := c123
            have c123b1 : (!t108) = false := by rw [c123b0]; rfl
            clear c123
            go_wp2_with fail
            have ho := some_eq AL113
            subst ho
            have H := lp_ret H
            go_ret
            rw [← some_eq H]
            exact ⟨(by first | rfl | (simp [IntKind.wrap_u32]; done)), (HS.out).keep (l := []) (rest := [])⟩
          · have AL113 := if_no c123 AL113
            have c123b0 : t108 = false := by simpa using c123
            have c123b1 : (!t108) = true := by rw [c123b0]; rfl
            clear c123
            go_wp2_with fail
            go_roundg k115
            case measure => exact Nat.lt_succ_self _
            case rel => exact ⟨(wrap64 (x116 + 1)), (by first | rfl | (simp [IntKind.wrap_u32]; done)), Aside0.mk AL113.out, ⟨(HS.out).keep (l := []) (rest := [])⟩⟩
        · have AL113 := if_no c118 AL113
          have c118b0 : decide (0 ≤ x116) = false := decide_eq_false c118
          clear c118
          exact (none_no AL113).elim
      · have AL113 := if_no c117 AL113
        have c117b0 : decide (x116 < (l86.length : Int)) = false := decide_eq_false c117
        clear c117
        have ho := some_eq AL113
        subst ho
        clear AL113
        have H := lp_out H
        go_wp2_with fail
        go_ret
        rw [← some_eq H]
        exact ⟨(by first | rfl | (simp [IntKind.wrap_u32]; done)), (HS.out).keep (l := []) (rest := [])⟩

set_option maxHeartbeats 30000000 in
set_option maxRecDepth 100000 in
theorem slices_ContainsFunc_int_int_F118.calls (k : Nat) (l82 : List Int) (A83 : Option Addr) (n84 : Nat) (r : Bool) (w : World) (HR85 : Aside0 (Rd (Kd.int .i64) (fps []) w A83 l82.length l82))  (HS : Aside0 (Sep (fps []) w [] w)) (H : Aside0 (slices_ContainsFunc_int_int_F118.f k l82 = some r)) :
    Calls Try.prog 117 #[.slice A83 l82.length n84, .func (.func 118) #[] #[]] w fun e w' => e = .returned (.bool r) ∧ Sep (fps []) w [] w' := by
  unfold slices_ContainsFunc_int_int_F118.f at H
  go_enter Try.func117, Try.ntmps117
  go_wp2_with fail
  obtain ⟨t125, HA126, H⟩ := bind_some H
  refine (slices_IndexFunc_int_int_F118.calls _ l82 A83 n84 t125 _ ⟨Rd.pass (l := []) (rest := []) (by decide) (fun _ _ _ _ h => h) HR85.out HS.out⟩ ⟨HS.out.begin (l := []) (rest := [])⟩ HA126).mono ?_
  rintro e_ w127 ⟨rfl, hS⟩
  replace HS : Aside0 (Sep (fps []) w [] w127) := ⟨HS.out.call (l := []) (rest := []) hS⟩
  clear hS
  go_wp2_with fail
  go_ret
  rw [← some_eq H]
  exact ⟨(by first | rfl | (simp [IntKind.wrap_u32]; done)), (HS.out).keep (l := []) (rest := [])⟩

set_option maxHeartbeats 30000000 in
set_option maxRecDepth 100000 in
theorem ratio_Mul.calls (k : Nat) (l78 : List Int) (A79 : Option Addr) (n80 : Nat) (r : Int) (w : World) (HR81 : Aside0 (Rd (Kd.int .i64) (fps []) w A79 l78.length l78))  (HS : Aside0 (Sep (fps []) w [] w)) (H : Aside0 (ratio_Mul.f k l78 = some r)) :
    Calls Try.prog 107 #[.slice A79 l78.length n80] w fun e w' => e = .returned (.int .i64 r) ∧ Sep (fps []) w [] w' := by
  unfold ratio_Mul.f at H
  go_enter Try.func107, Try.ntmps107
  go_wp2_with fail
  obtain ⟨t128, HA129, H⟩ := bind_some H
  refine (slices_ContainsFunc_int_int_F118.calls _ l78 A79 n80 t128 _ ⟨Rd.pass (l := []) (rest := []) (by decide) (fun _ _ _ _ h => h) HR81.out HS.out⟩ ⟨HS.out.begin (l := []) (rest := [])⟩ HA129).mono ?_
  rintro e_ w130 ⟨rfl, hS⟩
  replace HS : Aside0 (Sep (fps []) w [] w130) := ⟨HS.out.call (l := []) (rest := []) hS⟩
  clear hS
  by_cases c131 : t128 = true
  · have H := if_yes c131 H
    have c131b0 : t128 = true := c131
    have c131b1 : (!t128) = false := by rw [c131b0]; rfl
    clear c131
    go_wp2_with fail
    go_ret
    rw [← some_eq H]
    exact ⟨(by first | rfl | (simp [IntKind.wrap_u32]; done)), (HS.out).keep (l := []) (rest := [])⟩
  · have H := if_no c131 H
    have c131b0 : t128 = false := by simpa using c131
    have c131b1 : (!t128) = true := by rw [c131b0]; rfl
    clear c131
    go_wp2_with fail
    obtain ⟨o133, AL134, H⟩ := bind_some H
    go_loopg [3, 11] k (fun kq v3 v11 wc => ∃ (x137 : Int) (x138 : Int), v3 = .int .i64 x137 ∧ v11 = .int .i64 x138 ∧ Aside0 (ratio_Mul.lo0 kq l78 x137 x138 = some o133) ∧ Aside0 (Sep (fps []) w [] wc))
    case atStart => exact ⟨(1), (0), (by first | rfl | (simp [IntKind.wrap_u32]; done)), (by first | rfl | (simp [IntKind.wrap_u32]; done)), AL134, ⟨HS.out⟩⟩
    case round =>
      clear AL134 HS
      obtain ⟨x137, x138, rfl, rfl, AL134, HS⟩ := hrel
      obtain ⟨w135, rfl⟩ : ∃ x : World, x = wr := ⟨_, rfl⟩
      cases gk with
      | zero => exact absurd AL134.out (by simp [ratio_Mul.lo0])
      | succ k136 =>
        have AL0 := AL134.out
        rw [ratio_Mul.lo0] at AL0
        clear AL134
        have AL134 := Aside0.mk AL0
        clear AL0
        by_cases c139 : x138 < (l78.length : Int)
        · have AL134 := if_yes c139 AL134
          have c139b0 : decide (x138 < (l78.length : Int)) = true := decide_eq_true c139
          clear c139
          by_cases c140 : 0 ≤ x138
          · have AL134 := if_yes c140 AL134
            have c140b0 : decide (0 ≤ x138) = true := decide_eq_true c140
            have c140p : (0 ≤ x138) = True := eq_true c140
            clear c140
            have ip141 : (x138 < (l78.length : Int)) = True := eq_true (of_decide_eq_true c139b0)
            obtain ⟨hx142a, hx142e, hx142⟩ := Kd.at_int (Rd.read (fun _ _ _ _ h => h) HR81.out HS.out.fr) x138 (of_decide_eq_true c140b0) (of_decide_eq_true c139b0); cases hx142e
            go_wp2_with fail
            clear hx142
            obtain ⟨t143, HA144, AL134⟩ := bind_some AL134
            refine (ratio_counts.calls (rd l78 x138) t143 _ ⟨HS.out.begin (l := []) (rest := [])⟩ HA144).mono ?_
            rintro e_ w145 ⟨rfl, hS⟩
            replace HS : Aside0 (Sep (fps []) w [] w145) := ⟨HS.out.call (l := []) (rest := []) hS⟩
            clear hS
            by_cases c146 : t143 = 0
            · have AL134 := if_yes c146 AL134
              have c146b0 : (t143 == 0) = true := beq_iff_eq.mpr c146
              have c146b1 : (t143 != 0) = false := bne_eq_false_iff_eq.mpr c146
              exact (none_no AL134).elim
            · have AL134 := if_no c146 AL134
              have c146b0 : (t143 == 0) = false := beq_eq_false_iff_ne.mpr c146
              have c146b1 : (t143 != 0) = true := bne_iff_ne.mpr c146
              by_cases c147 : x137 ≤ (wrap64 (Int.tdiv (1125899906842624 : Int) t143))
              · have AL134 := if_yes c147 AL134
                have c147b0 : decide (x137 ≤ (wrap64 (Int.tdiv (1125899906842624 : Int) t143))) = true := decide_eq_true c147
                clear c147
                skip
                go_wp2_with fail
                clear c146
                go_roundg k136
                case measure => exact Nat.lt_succ_self _
                case rel => exact ⟨(wrap64 (x137 * t143)), (wrap64 (x138 + 1)), (by first | rfl | (simp [IntKind.wrap_u32]; done)), (by first | rfl | (simp [IntKind.wrap_u32]; done)), Aside0.mk AL134.out, ⟨(HS.out).keep (l := []) (rest := [])⟩⟩
              · have AL134 := if_no c147 AL134
                have c147b0 : decide (x137 ≤ (wrap64 (Int.tdiv (1125899906842624 : Int) t143))) = false := decide_eq_false c147
                clear c147
                skip
                go_wp2_with fail
                clear c146
                go_roundg k136
                case measure => exact Nat.lt_succ_self _
                case rel => exact ⟨(1125899906842624), (wrap64 (x138 + 1)), (by first | rfl | (simp [IntKind.wrap_u32]; done)), (by first | rfl | (simp [IntKind.wrap_u32]; done)), Aside0.mk AL134.out, ⟨(HS.out).keep (l := []) (rest := [])⟩⟩
          · have AL134 := if_no c140 AL134
            have c140b0 : decide (0 ≤ x138) = false := decide_eq_false c140
            clear c140
            exact (none_no AL134).elim
        · have AL134 := if_no c139 AL134
          have c139b0 : decide (x138 < (l78.length : Int)) = false := decide_eq_false c139
          clear c139
          have ho := some_eq AL134
          subst ho
          clear AL134
          go_wp2_with fail
          go_ret
          rw [← some_eq H]
          exact ⟨(by first | rfl | (simp [IntKind.wrap_u32]; done)), (HS.out).keep (l := []) (rest := [])⟩

set_option maxHeartbeats 30000000 in
set_option maxRecDepth 100000 in
theorem ratio_Add.calls (k : Nat) (l155 : List Int) (A156 : Option Addr) (n157 : Nat) (r : Int) (w : World) (HR158 : Aside0 (Rd (Kd.int .i64) (fps []) w A156 l155.length l155))  (HS : Aside0 (Sep (fps []) w [] w)) (H : Aside0 (ratio_Add.f k l155 = some r)) :
    Calls Try.prog 106 #[.slice A156 l155.length n157] w fun e w' => e = .returned (.int .i64 r) ∧ Sep (fps []) w [] w' := by
  unfold ratio_Add.f at H
  go_enter Try.func106, Try.ntmps106
  go_wp2_with fail
  obtain ⟨o160, AL161, H⟩ := bind_some H
  go_loopg [3, 8] k (fun kq v3 v8 wc => ∃ (x164 : Int) (x165 : Int), v3 = .int .i64 x164 ∧ v8 = .int .i64 x165 ∧ Aside0 (ratio_Add.lo0 kq l155 x164 x165 = some o160) ∧ Aside0 (Sep (fps []) w [] wc))
  case atStart => exact ⟨(0), (0), (by first | rfl | (simp [IntKind.wrap_u32]; done)), (by first | rfl | (simp [IntKind.wrap_u32]; done)), AL161, ⟨HS.out⟩⟩
  case round =>
    clear AL161 HS
    obtain ⟨x164, x165, rfl, rfl, AL161, HS⟩ := hrel
    obtain ⟨w162, rfl⟩ : ∃ x : World, x = wr := ⟨_, rfl⟩
    cases gk with
    | zero => exact absurd AL161.out (by simp [ratio_Add.lo0])
    | succ k163 =>
      have AL0 := AL161.out
      rw [ratio_Add.lo0] at AL0
      clear AL161
      have AL161 := Aside0.mk AL0
      clear AL0
      by_cases c166 : x165 < (l155.length : Int)
      · have AL161 := if_yes c166 AL161
        have c166b0 : decide (x165 < (l155.length : Int)) = true := decide_eq_true c166
        clear c166
        by_cases c167 : 0 ≤ x165
        · have AL161 := if_yes c167 AL161
          have c167b0 : decide (0 ≤ x165) = true := decide_eq_true c167
          have c167p : (0 ≤ x165) = True := eq_true c167
          clear c167
          have ip168 : (x165 < (l155.length : Int)) = True := eq_true (of_decide_eq_true c166b0)
          obtain ⟨hx169a, hx169e, hx169⟩ := Kd.at_int (Rd.read (fun _ _ _ _ h => h) HR158.out HS.out.fr) x165 (of_decide_eq_true c167b0) (of_decide_eq_true c166b0); cases hx169e
          go_wp2_with fail
          clear hx169
          obtain ⟨t170, HA171, AL161⟩ := bind_some AL161
          refine (ratio_counts.calls (rd l155 x165) t170 _ ⟨HS.out.begin (l := []) (rest := [])⟩ HA171).mono ?_
          rintro e_ w172 ⟨rfl, hS⟩
          replace HS : Aside0 (Sep (fps []) w [] w172) := ⟨HS.out.call (l := []) (rest := []) hS⟩
          clear hS
          by_cases c173 : 1125899906842624 < (wrap64 (x164 + t170))
          · have AL161 := if_yes c173 AL161
            have c173b0 : decide (1125899906842624 < (wrap64 (x164 + t170))) = true := decide_eq_true c173
            skip
            go_wp2_with fail
            clear c173
            go_roundg k163
            case measure => exact Nat.lt_succ_self _
            case rel => exact ⟨(1125899906842624), (wrap64 (x165 + 1)), (by first | rfl | (simp [IntKind.wrap_u32]; done)), (by first | rfl | (simp [IntKind.wrap_u32]; done)), Aside0.mk AL161.out, ⟨(HS.out).keep (l := []) (rest := [])⟩⟩
          · have AL161 := if_no c173 AL161
            have c173b0 : decide (1125899906842624 < (wrap64 (x164 + t170))) = false := decide_eq_false c173
            skip
            go_wp2_with fail
            clear c173
            go_roundg k163
            case measure => exact Nat.lt_succ_self _
            case rel => exact ⟨(wrap64 (x164 + t170)), (wrap64 (x165 + 1)), (by first | rfl | (simp [IntKind.wrap_u32]; done)), (by first | rfl | (simp [IntKind.wrap_u32]; done)), Aside0.mk AL161.out, ⟨(HS.out).keep (l := []) (rest := [])⟩⟩
        · have AL161 := if_no c167 AL161
          have c167b0 : decide (0 ≤ x165) = false := decide_eq_false c167
          clear c167
          exact (none_no AL161).elim
      · have AL161 := if_no c166 AL161
        have c166b0 : decide (x165 < (l155.length : Int)) = false := decide_eq_false c166
        clear c166
        have ho := some_eq AL161
        subst ho
        clear AL161
        go_wp2_with fail
        go_ret
        rw [← some_eq H]
        exact ⟨(by first | rfl | (simp [IntKind.wrap_u32]; done)), (HS.out).keep (l := []) (rest := [])⟩

set_option maxHeartbeats 30000000 in
set_option maxRecDepth 100000 in
theorem ratio_by.calls (a384 : Int) (r : Int) (w : World)   (HS : Aside0 (Sep (fps []) w [] w)) (H : Aside0 (ratio_by.f a384 = some r)) :
    Calls Try.prog 119 #[.int .i64 a384] w fun e w' => e = .returned (.int .i64 r) ∧ Sep (fps []) w [] w' := by
  unfold ratio_by.f at H
  go_enter Try.func119, Try.ntmps119
  go_wp2_with fail
  obtain ⟨t385, HA386, H⟩ := bind_some H
  refine (ratio_counts.calls a384 t385 _ ⟨HS.out.begin (l := []) (rest := [])⟩ HA386).mono ?_
  rintro e_ w387 ⟨rfl, hS⟩
  replace HS : Aside0 (Sep (fps []) w [] w387) := ⟨HS.out.call (l := []) (rest := []) hS⟩
  clear hS
  by_cases c388 : t385 < 1
  · have H := if_yes c388 H
    have c388b0 : decide (t385 < 1) = true := decide_eq_true c388
    skip
    go_wp2_with fail
    clear c388
    go_ret
    rw [← some_eq H]
    exact ⟨(by first | rfl | (simp [IntKind.wrap_u32]; done)), (HS.out).keep (l := []) (rest := [])⟩
  · have H := if_no c388 H
    have c388b0 : decide (t385 < 1) = false := decide_eq_false c388
    skip
    go_wp2_with fail
    clear c388
    go_ret
    rw [← some_eq H]
    exact ⟨(by first | rfl | (simp [IntKind.wrap_u32]; done)), (HS.out).keep (l := []) (rest := [])⟩

set_option maxHeartbeats 30000000 in
set_option maxRecDepth 100000 in
theorem ratio_Up.calls (a379 : Int) (a380 : Int) (r : Int) (w : World)   (HS : Aside0 (Sep (fps []) w [] w)) (H : Aside0 (ratio_Up.f a379 a380 = some r)) :
    Calls Try.prog 108 #[.int .i64 a379, .int .i64 a380] w fun e w' => e = .returned (.int .i64 r) ∧ Sep (fps []) w [] w' := by
  unfold ratio_Up.f at H
  go_enter Try.func108, Try.ntmps108
  go_wp2_with fail
  obtain ⟨t381, HA382, H⟩ := bind_some H
  refine (ratio_counts.calls a379 t381 _ ⟨HS.out.begin (l := []) (rest := [])⟩ HA382).mono ?_
  rintro e_ w383 ⟨rfl, hS⟩
  replace HS : Aside0 (Sep (fps []) w [] w383) := ⟨HS.out.call (l := []) (rest := []) hS⟩
  clear hS
  go_wp2_with fail
  obtain ⟨t389, HA390, H⟩ := bind_some H
  refine (ratio_by.calls a380 t389 _ ⟨HS.out.begin (l := []) (rest := [])⟩ HA390).mono ?_
  rintro e_ w391 ⟨rfl, hS⟩
  replace HS : Aside0 (Sep (fps []) w [] w391) := ⟨HS.out.call (l := []) (rest := []) hS⟩
  clear hS
  go_wp2_with fail
  obtain ⟨t392, HA393, H⟩ := bind_some H
  refine (ratio_by.calls a380 t392 _ ⟨HS.out.begin (l := []) (rest := [])⟩ HA393).mono ?_
  rintro e_ w394 ⟨rfl, hS⟩
  replace HS : Aside0 (Sep (fps []) w [] w394) := ⟨HS.out.call (l := []) (rest := []) hS⟩
  clear hS
  by_cases c395 : t392 = 0
  · have H := if_yes c395 H
    have c395b0 : (t392 == 0) = true := beq_iff_eq.mpr c395
    have c395b1 : (t392 != 0) = false := bne_eq_false_iff_eq.mpr c395
    exact (none_no H).elim
  · have H := if_no c395 H
    have c395b0 : (t392 == 0) = false := beq_eq_false_iff_ne.mpr c395
    have c395b1 : (t392 != 0) = true := bne_iff_ne.mpr c395
    skip
    go_wp2_with fail
    clear c395
    go_ret
    rw [← some_eq H]
    exact ⟨(by first | rfl | (simp [IntKind.wrap_u32]; done)), (HS.out).keep (l := []) (rest := [])⟩

set_option maxHeartbeats 30000000 in
set_option maxRecDepth 100000 in
theorem plan_Of.calls (k : Nat) (a14 : Int) (a15 : Int) (a16 : Int) (a17 : Int) (r : Int × Int × Int × Int × Int × Int × Int × Int × Int) (w : World)   (HS : Aside0 (Sep (fps []) w [] w)) (H : Aside0 (plan_Of.f k a14 a15 a16 a17 = some r)) :
    Calls Try.prog 76 #[.agg #[.int .i64 a14, .int .i64 a15, .int .i64 a16, .int .i64 a17]] w fun e w' => e = .returned (.tuple #[.agg #[.int .i64 r.1, .int .i64 r.2.1, .int .i64 r.2.2.1, .int .i64 r.2.2.2.1, .int .i64 r.2.2.2.2.1, .int .i64 r.2.2.2.2.2.1, .int .i64 r.2.2.2.2.2.2.1, .int .i64 r.2.2.2.2.2.2.2.1], .int .i64 r.2.2.2.2.2.2.2.2]) ∧ Sep (fps []) w [] w' := by
  unfold plan_Of.f at H
  go_enter Try.func76, Try.ntmps76
  go_wp2_with (first | ((with_reducible refine gate_dst (N := 1) rfl ?_); refine box_on ?hg (N := 1) ?hd (cs := #[.int .i64 a14, .int .i64 a15, .int .i64 a16, .int .i64 a17]) (t := 49) ?hr ?_; (case hd => rfl); (case hg => rfl); (case hr => first | (go_simp; done) | (go_simp; rfl)); intro g18 hg w19 hbox hb; replace HS : Aside0 (Sep (fps []) w [b1 g18 a14 a15 a16 a17] w19) := ⟨HS.out.box hg hbox hb⟩; clear hg hbox hb) | ((with_reducible refine gate_dst (N := 2) rfl ?_); refine box_on ?hg (N := 2) ?hd (cs := #[.int .i64 0, .int .i64 0, .int .i64 0, .int .i64 0, .int .i64 0, .int .i64 0, .int .i64 0, .int .i64 0]) (t := 120) ?hr ?_; (case hd => rfl); (case hg => rfl); (case hr => first | (go_simp; done) | (go_simp; rfl)); intro g21 hg w22 hbox hb; replace HS : Aside0 (Sep (fps []) w [b1 g18 a14 a15 a16 a17, b2 g21 0 0 0 0 0 0 0 0] w22) := ⟨HS.out.box hg hbox hb⟩; clear hg hbox hb; have hc24 : w22.cell? ⟨g18, 0, none⟩ = some (.int .i64 a14) := blk_cellv (HS.out.at0) 0 rfl; have hc25 : w22.cell? ⟨g18, 1, none⟩ = some (.int .i64 a15) := blk_cellv (HS.out.at0) 1 rfl; have hc26 : w22.cell? ⟨g18, 2, none⟩ = some (.int .i64 a16) := blk_cellv (HS.out.at0) 2 rfl; have hc27 : w22.cell? ⟨g18, 3, none⟩ = some (.int .i64 a17) := blk_cellv (HS.out.at0) 3 rfl))
  clear hc24 hc25 hc26 hc27
  obtain ⟨t69, HA70, H⟩ := bind_some H
  refine (plan_Check.calls a14 a15 a16 a17 t69 _ ⟨HS.out.begin (l := []) (rest := [b1 g18 a14 a15 a16 a17, b2 g21 0 0 0 0 0 0 0 0])⟩ HA70).mono ?_
  rintro e_ w71 ⟨rfl, hS⟩
  replace HS : Aside0 (Sep (fps []) w [b1 g18 a14 a15 a16 a17, b2 g21 0 0 0 0 0 0 0 0] w71) := ⟨HS.out.call (l := []) (rest := [b1 g18 a14 a15 a16 a17, b2 g21 0 0 0 0 0 0 0 0]) hS⟩
  clear hS
  by_cases c72 : t69 = 0
  · have H := if_yes c72 H
    have c72b0 : (t69 == 0) = true := beq_iff_eq.mpr c72
    have c72b1 : (t69 != 0) = false := bne_eq_false_iff_eq.mpr c72
    clear c72
    go_wp2_with fail
    obtain ⟨t149, HA150, H⟩ := bind_some H
    obtain ⟨t175, HA176, H⟩ := bind_some H
    go_cut [5] (fun v5 wc => ∃ (g75 : Nat) (g152 : Nat) (g178 : Nat), v5 = .pointer (some ⟨g178, 0, none⟩) ∧ Aside0 (Sep (fps []) w [b1 g18 a14 a15 a16 a17, b2 g21 0 0 0 0 0 0 0 0, b3 g75 a14 a15, b4 g152 24 a16 t149, b2 g178 t175 (wrap64 (a15 - 8)) 0 0 0 0 0 0] wc))
    case first =>
      go_wp2_with fail
      refine start_ (n := 16) (S := (fun w' => w'.cell? ⟨g18, 2, none⟩ = some (.int .i64 a16) ∧ w'.cell? ⟨g18, 0, none⟩ = some (.int .i64 a14) ∧ w'.cell? ⟨g18, 1, none⟩ = some (.int .i64 a15))) (ds := []) #[false, false, false, false, false, false, false, false, false, false, false, false, false, false, false, false] (by kernel_rfl) rfl rfl (⟨blk_cellv ((HS.out.drew).at0) 2 rfl, blk_cellv ((HS.out.drew).at0) 0 rfl, blk_cellv ((HS.out.drew).at0) 1 rfl⟩) (fun hHeld => ?_)
      have HS_ := Aside0.mk HS.out.drew
      clear HS
      generalize World.drew _ = w200 at HS_ hHeld ⊢
      have HS := HS_
      clear HS_
      refine pure_ (i := 0) (N := some 12) (v := ?_) (a' := ?_) #[true, false, false, false, false, false, false, false, false, false, false, false, false, false, false, false] rfl rfl (by kernel_rfl) (fun _ _ _ h => h) (Or.inl ⟨by rfl, ?_⟩) ?_ ?_
      rotate_left
      · intro w'
        go_simp
        with_reducible rfl
      rotate_left
      · simp only [Act.put, List.setIfInBounds_toArray, List.set_cons_zero, List.set_cons_succ, i64_w, i32_w]
        rfl
      refine pure_ (i := 2) (N := some 14) (v := ?_) (a' := ?_) #[true, false, true, false, false, false, false, false, false, false, false, false, false, false, false, false] rfl rfl (by kernel_rfl) (fun _ _ _ h => h) (Or.inl ⟨by rfl, ?_⟩) ?_ ?_
      rotate_left
      · intro w'
        go_simp
        with_reducible rfl
      rotate_left
      · simp only [Act.put, List.setIfInBounds_toArray, List.set_cons_zero, List.set_cons_succ, i64_w, i32_w]
        rfl
      refine pure_ (i := 4) (N := some 16) (v := ?_) (a' := ?_) #[true, false, true, false, true, false, false, false, false, false, false, false, false, false, false, false] rfl rfl (by kernel_rfl) (fun _ _ _ h => h) (Or.inl ⟨by rfl, ?_⟩) ?_ ?_
      rotate_left
      · intro w'
        go_simp
        with_reducible rfl
      rotate_left
      · simp only [Act.put, List.setIfInBounds_toArray, List.set_cons_zero, List.set_cons_succ, i64_w, i32_w]
        rfl
      refine pure_ (i := 10) (N := some 22) (v := ?_) (a' := ?_) #[true, false, true, false, true, false, false, false, false, false, true, false, false, false, false, false] rfl rfl (by kernel_rfl) (fun _ _ _ h => h) (Or.inl ⟨by rfl, ?_⟩) ?_ ?_
      rotate_left
      · intro w'
        go_simp
        with_reducible rfl
      rotate_left
      · simp only [Act.put, List.setIfInBounds_toArray, List.set_cons_zero, List.set_cons_succ, i64_w, i32_w]
        rfl
      refine take_ (i := 1) (N := some 13) (v := ?_) (a' := ?_) #[true, true, true, false, true, false, false, false, false, false, true, false, false, false, false, false] rfl rfl (by kernel_rfl) (fun _ _ _ h => h) (Or.inl ⟨by rfl, ?_⟩) hHeld ?_ ?_
      rotate_left
      · rintro w' hS'
        obtain ⟨s0, s1, s2⟩ := hS'
        go_simp
        with_reducible rfl
      rotate_left
      · simp only [Act.put, List.setIfInBounds_toArray, List.set_cons_zero, List.set_cons_succ, i64_w, i32_w]
        rfl
      refine take_ (i := 3) (N := some 15) (v := ?_) (a' := ?_) #[true, true, true, true, true, false, false, false, false, false, true, false, false, false, false, false] rfl rfl (by kernel_rfl) (fun _ _ _ h => h) (Or.inl ⟨by rfl, ?_⟩) hHeld ?_ ?_
      rotate_left
      · rintro w' hS'
        obtain ⟨s0, s1, s2⟩ := hS'
        go_simp
        with_reducible rfl
      rotate_left
      · simp only [Act.put, List.setIfInBounds_toArray, List.set_cons_zero, List.set_cons_succ, i64_w, i32_w]
        rfl
      refine take_ (i := 5) (N := some 17) (v := ?_) (a' := ?_) #[true, true, true, true, true, true, false, false, false, false, true, false, false, false, false, false] rfl rfl (by kernel_rfl) (fun _ _ _ h => h) (Or.inl ⟨by rfl, ?_⟩) hHeld ?_ ?_
      rotate_left
      · rintro w' hS'
        obtain ⟨s0, s1, s2⟩ := hS'
        go_simp
        with_reducible rfl
      rotate_left
      · simp only [Act.put, List.setIfInBounds_toArray, List.set_cons_zero, List.set_cons_succ, i64_w, i32_w]
        rfl
      refine take_ (i := 11) (N := some 23) (v := ?_) (a' := ?_) #[true, true, true, true, true, true, false, false, false, false, true, true, false, false, false, false] rfl rfl (by kernel_rfl) (fun _ _ _ h => h) (Or.inl ⟨by rfl, ?_⟩) hHeld ?_ ?_
      rotate_left
      · rintro w' hS'
        obtain ⟨s0, s1, s2⟩ := hS'
        go_simp
        with_reducible rfl
      rotate_left
      · simp only [Act.put, List.setIfInBounds_toArray, List.set_cons_zero, List.set_cons_succ, i64_w, i32_w]
        rfl
      refine pure_ (i := 12) (N := some 24) (v := ?_) (a' := ?_) #[true, true, true, true, true, true, false, false, false, false, true, true, true, false, false, false] rfl rfl (by kernel_rfl) (fun _ _ _ h => h) (Or.inl ⟨by rfl, ?_⟩) ?_ ?_
      rotate_left
      · intro w'
        go_simp
        with_reducible rfl
      rotate_left
      · simp only [Act.put, List.setIfInBounds_toArray, List.set_cons_zero, List.set_cons_succ, i64_w, i32_w]
        rfl
      refine two_ (i := 6) (j := 14) (Ni := some 18) (Nj := some 5) #[true, true, true, true, true, true, true, false, false, false, true, true, true, false, false, false] #[true, true, true, true, true, true, false, false, false, false, true, true, true, false, true, false] rfl rfl rfl rfl (by kernel_rfl) (by decide) (by decide) (fun K hK => ?_) (fun K hK => ?_)
      · refine slice_step (n := 2) (by rfl) (N := 18) rfl (cs := #[.int .i64 a14, .int .i64 a15]) (t := 3) ?hr ?_
        case hr => first | (go_simp; done) | (go_simp; rfl)
        intro g201 hg w202 hbox hb
        replace HS : Aside0 (Sep (fps []) w [b1 g18 a14 a15 a16 a17, b2 g21 0 0 0 0 0 0 0 0, b3 g201 a14 a15] w202) := ⟨HS.out.box hg hbox hb⟩
        clear hg hbox hb
        refine hK.out _ _ (⟨blk_cellv (HS.out.at0) 2 rfl, blk_cellv (HS.out.at0) 0 rfl, blk_cellv (HS.out.at0) 1 rfl⟩) (fun hHeld => ?_)
        clear hK K
        refine norm_ (a' := ?_) ?_ ?_
        rotate_left
        · show Act.put _ (some 18) _ = _
          simp only [Act.put, List.setIfInBounds_toArray, List.set_cons_zero, List.set_cons_succ, i64_w, i32_w]
          rfl
        refine two_ (i := 7) (j := 14) (Ni := some 19) (Nj := some 5) #[true, true, true, true, true, true, true, true, false, false, true, true, true, false, false, false] #[true, true, true, true, true, true, true, false, false, false, true, true, true, false, true, false] rfl rfl rfl rfl (by kernel_rfl) (by decide) (by decide) (fun K hK => ?_) (fun K hK => ?_)
        · refine goes_ Try.func107 (by kernel_rfl) rfl #[.slice (some ⟨g201, 0, none⟩) 2 2] (by rfl) rfl rfl (by (try simp only [List.map_toArray, List.map_cons, List.map_nil]); first | done | rfl) ?_
          refine (ratio_Mul.calls _ [a14, a15] (some ⟨g201, 0, none⟩) 2 t149 _ ⟨Rd.lit (l := []) (rest := [b1 g18 a14 a15 a16 a17, b2 g21 0 0 0 0 0 0 0 0, b3 g201 a14 a15]) (xs := [a14, a15]) HS.out 2 rfl (by simp)⟩ ⟨HS.out.begin (l := []) (rest := [b1 g18 a14 a15 a16 a17, b2 g21 0 0 0 0 0 0 0 0, b3 g201 a14 a15])⟩ HA150).mono ?_
          rintro e_ w205 ⟨rfl, hS⟩
          replace HS : Aside0 (Sep (fps []) w [b1 g18 a14 a15 a16 a17, b2 g21 0 0 0 0 0 0 0 0, b3 g201 a14 a15] w205) := ⟨HS.out.call (l := []) (rest := [b1 g18 a14 a15 a16 a17, b2 g21 0 0 0 0 0 0 0 0, b3 g201 a14 a15]) hS⟩
          clear hS
          refine ⟨_, rfl, ?_⟩
          refine hK.out _ _ (⟨blk_cellv (HS.out.at0) 2 rfl, blk_cellv (HS.out.at0) 0 rfl, blk_cellv (HS.out.at0) 1 rfl⟩) (fun hHeld => ?_)
          clear hK K
          refine norm_ (a' := ?_) ?_ ?_
          rotate_left
          · show Act.put _ (some 19) _ = _
            simp only [Act.put, List.setIfInBounds_toArray, List.set_cons_zero, List.set_cons_succ, i64_w, i32_w]
            rfl
          refine two_ (i := 8) (j := 14) (Ni := some 20) (Nj := some 5) #[true, true, true, true, true, true, true, true, true, false, true, true, true, false, false, false] #[true, true, true, true, true, true, true, true, false, false, true, true, true, false, true, false] rfl rfl rfl rfl (by kernel_rfl) (by decide) (by decide) (fun K hK => ?_) (fun K hK => ?_)
          · refine slice_step (n := 3) (by rfl) (N := 20) rfl (cs := #[.int .i64 24, .int .i64 a16, .int .i64 t149]) (t := 3) ?hr ?_
            case hr => first | (go_simp; done) | (go_simp; rfl)
            intro g206 hg w207 hbox hb
            replace HS : Aside0 (Sep (fps []) w [b1 g18 a14 a15 a16 a17, b2 g21 0 0 0 0 0 0 0 0, b3 g201 a14 a15, b4 g206 24 a16 t149] w207) := ⟨HS.out.box hg hbox hb⟩
            clear hg hbox hb
            refine hK.out _ _ (⟨blk_cellv (HS.out.at0) 2 rfl, blk_cellv (HS.out.at0) 0 rfl, blk_cellv (HS.out.at0) 1 rfl⟩) (fun hHeld => ?_)
            clear hK K
            refine norm_ (a' := ?_) ?_ ?_
            rotate_left
            · show Act.put _ (some 20) _ = _
              simp only [Act.put, List.setIfInBounds_toArray, List.set_cons_zero, List.set_cons_succ, i64_w, i32_w]
              rfl
            refine two_ (i := 9) (j := 14) (Ni := some 21) (Nj := some 5) #[true, true, true, true, true, true, true, true, true, true, true, true, true, false, false, false] #[true, true, true, true, true, true, true, true, true, false, true, true, true, false, true, false] rfl rfl rfl rfl (by kernel_rfl) (by decide) (by decide) (fun K hK => ?_) (fun K hK => ?_)
            · refine goes_ Try.func106 (by kernel_rfl) rfl #[.slice (some ⟨g206, 0, none⟩) 3 3] (by rfl) rfl rfl (by (try simp only [List.map_toArray, List.map_cons, List.map_nil]); first | done | rfl) ?_
              refine (ratio_Add.calls _ [24, a16, t149] (some ⟨g206, 0, none⟩) 3 t175 _ ⟨Rd.lit (l := []) (rest := [b1 g18 a14 a15 a16 a17, b2 g21 0 0 0 0 0 0 0 0, b3 g201 a14 a15, b4 g206 24 a16 t149]) (xs := [24, a16, t149]) HS.out 3 rfl (by simp)⟩ ⟨HS.out.begin (l := []) (rest := [b1 g18 a14 a15 a16 a17, b2 g21 0 0 0 0 0 0 0 0, b3 g201 a14 a15, b4 g206 24 a16 t149])⟩ HA176).mono ?_
              rintro e_ w210 ⟨rfl, hS⟩
              replace HS : Aside0 (Sep (fps []) w [b1 g18 a14 a15 a16 a17, b2 g21 0 0 0 0 0 0 0 0, b3 g201 a14 a15, b4 g206 24 a16 t149] w210) := ⟨HS.out.call (l := []) (rest := [b1 g18 a14 a15 a16 a17, b2 g21 0 0 0 0 0 0 0 0, b3 g201 a14 a15, b4 g206 24 a16 t149]) hS⟩
              clear hS
              refine ⟨_, rfl, ?_⟩
              refine hK.out _ _ (⟨blk_cellv (HS.out.at0) 2 rfl, blk_cellv (HS.out.at0) 0 rfl, blk_cellv (HS.out.at0) 1 rfl⟩) (fun hHeld => ?_)
              clear hK K
              refine norm_ (a' := ?_) ?_ ?_
              rotate_left
              · show Act.put _ (some 21) _ = _
                simp only [Act.put, List.setIfInBounds_toArray, List.set_cons_zero, List.set_cons_succ, i64_w, i32_w]
                rfl
              refine pure_ (i := 13) (N := some 25) (v := ?_) (a' := ?_) #[true, true, true, true, true, true, true, true, true, true, true, true, true, true, false, false] rfl rfl (by kernel_rfl) (fun _ _ _ h => h) (Or.inl ⟨by rfl, ?_⟩) ?_ ?_
              rotate_left
              · intro w'
                go_simp
                with_reducible rfl
              rotate_left
              · simp only [Act.put, List.setIfInBounds_toArray, List.set_cons_zero, List.set_cons_succ, i64_w, i32_w]
                rfl
              refine one_ (i := 14) (N := some 5) #[true, true, true, true, true, true, true, true, true, true, true, true, true, true, true, false] rfl rfl (by kernel_rfl) (by decide) (fun K hK => ?_)
              refine box_step (by rfl) (N := 5) rfl (cs := #[.int .i64 0, .int .i64 0, .int .i64 0, .int .i64 0, .int .i64 0, .int .i64 0, .int .i64 0, .int .i64 0]) (t := 120) ?hr ?_
              case hr => first | (go_simp; done) | (go_simp; rfl)
              intro g211 hg w212 hbox hb
              replace HS : Aside0 (Sep (fps []) w [b1 g18 a14 a15 a16 a17, b2 g21 0 0 0 0 0 0 0 0, b3 g201 a14 a15, b4 g206 24 a16 t149, b2 g211 0 0 0 0 0 0 0 0] w212) := ⟨HS.out.box hg hbox hb⟩
              clear hg hbox hb
              refine hK.out _ _ (⟨blk_cellv (HS.out.at0) 2 rfl, blk_cellv (HS.out.at0) 0 rfl, blk_cellv (HS.out.at0) 1 rfl⟩) (fun hHeld => ?_)
              clear hK K
              refine norm_ (a' := ?_) ?_ ?_
              rotate_left
              · show Act.put _ (some 5) _ = _
                simp only [Act.put, List.setIfInBounds_toArray, List.set_cons_zero, List.set_cons_succ, i64_w, i32_w]
                rfl
              refine one_ (i := 15) (N := none) #[true, true, true, true, true, true, true, true, true, true, true, true, true, true, true, true] rfl rfl (by kernel_rfl) (by decide) (fun K hK => ?_)
              have hc215 := blk_cellv (v := .int .i64 0) (HS.out.at4) 0 rfl
              have hz216 := blk_fz (HS.out.at4) 0
              have hc217 := blk_cellv (v := .int .i64 0) (HS.out.at4) 1 rfl
              have hz218 := blk_fz (HS.out.at4) 1
              have hc219 := blk_cellv (v := .int .i64 0) (HS.out.at4) 2 rfl
              have hz220 := blk_fz (HS.out.at4) 2
              have hc221 := blk_cellv (v := .int .i64 0) (HS.out.at4) 3 rfl
              have hz222 := blk_fz (HS.out.at4) 3
              have hc223 := blk_cellv (v := .int .i64 0) (HS.out.at4) 4 rfl
              have hz224 := blk_fz (HS.out.at4) 4
              have hc225 := blk_cellv (v := .int .i64 0) (HS.out.at4) 5 rfl
              have hz226 := blk_fz (HS.out.at4) 5
              have hc227 := blk_cellv (v := .int .i64 0) (HS.out.at4) 6 rfl
              have hz228 := blk_fz (HS.out.at4) 6
              have hc229 := blk_cellv (v := .int .i64 0) (HS.out.at4) 7 rfl
              have hz230 := blk_fz (HS.out.at4) 7
              refine store_step (w1 := (World.setCell (World.setCell (World.setCell (World.setCell (World.setCell (World.setCell (World.setCell (World.setCell w212 ⟨g211, 0, none⟩ (.int .i64 t175)) ⟨g211, 1, none⟩ (.int .i64 (wrap64 (a15 - 8)))) ⟨g211, 2, none⟩ (.int .i64 0)) ⟨g211, 3, none⟩ (.int .i64 0)) ⟨g211, 4, none⟩ (.int .i64 0)) ⟨g211, 5, none⟩ (.int .i64 0)) ⟨g211, 6, none⟩ (.int .i64 0)) ⟨g211, 7, none⟩ (.int .i64 0))) (by rfl) rfl ?hr ?_
              case hr => first | (go_simp; done) | (go_simp; rfl)
              clear hc215 hz216 hc217 hz218 hc219 hz220 hc221 hz222 hc223 hz224 hc225 hz226 hc227 hz228 hc229 hz230
              intro w214 hst
              replace HS : Aside0 (Sep (fps []) w [b1 g18 a14 a15 a16 a17, b2 g21 0 0 0 0 0 0 0 0, b3 g201 a14 a15, b4 g206 24 a16 t149, b2 g211 t175 (wrap64 (a15 - 8)) 0 0 0 0 0 0] w214) := ⟨by rw [hst]; exact HS.out.setAll (l1 := [b1 g18 a14 a15 a16 a17, b2 g21 0 0 0 0 0 0 0 0, b3 g201 a14 a15, b4 g206 24 a16 t149]) (l2 := []) [.int .i64 t175, .int .i64 (wrap64 (a15 - 8)), .int .i64 0, .int .i64 0, .int .i64 0, .int .i64 0, .int .i64 0, .int .i64 0] rfl⟩
              clear hst
              refine hK.out _ _ (⟨blk_cellv (HS.out.at0) 2 rfl, blk_cellv (HS.out.at0) 0 rfl, blk_cellv (HS.out.at0) 1 rfl⟩) (fun hHeld => ?_)
              clear hK K
              refine done_ (by kernel_rfl) ?_
              go_wp2_with fail
              go_meet
              case rel => exact ⟨g201, g206, g211, (by first | rfl | (simp [IntKind.wrap_u32]; done)), ⟨(((((HS.out).front 4 (by simp)).front 4 (by simp)).front 4 (by simp)).front 4 (by simp)).front 4 (by simp)⟩⟩
            · refine box_step (by rfl) (N := 5) rfl (cs := #[.int .i64 0, .int .i64 0, .int .i64 0, .int .i64 0, .int .i64 0, .int .i64 0, .int .i64 0, .int .i64 0]) (t := 120) ?hr ?_
              case hr => first | (go_simp; done) | (go_simp; rfl)
              intro g231 hg w232 hbox hb
              replace HS : Aside0 (Sep (fps []) w [b1 g18 a14 a15 a16 a17, b2 g21 0 0 0 0 0 0 0 0, b3 g201 a14 a15, b4 g206 24 a16 t149, b2 g231 0 0 0 0 0 0 0 0] w232) := ⟨HS.out.box hg hbox hb⟩
              clear hg hbox hb
              refine hK.out _ _ (⟨blk_cellv (HS.out.at0) 2 rfl, blk_cellv (HS.out.at0) 0 rfl, blk_cellv (HS.out.at0) 1 rfl⟩) (fun hHeld => ?_)
              clear hK K
              refine norm_ (a' := ?_) ?_ ?_
              rotate_left
              · show Act.put _ (some 5) _ = _
                simp only [Act.put, List.setIfInBounds_toArray, List.set_cons_zero, List.set_cons_succ, i64_w, i32_w]
                rfl
              refine one_ (i := 9) (N := some 21) #[true, true, true, true, true, true, true, true, true, true, true, true, true, false, true, false] rfl rfl (by kernel_rfl) (by decide) (fun K hK => ?_)
              refine goes_ Try.func106 (by kernel_rfl) rfl #[.slice (some ⟨g206, 0, none⟩) 3 3] (by rfl) rfl rfl (by (try simp only [List.map_toArray, List.map_cons, List.map_nil]); first | done | rfl) ?_
              refine (ratio_Add.calls _ [24, a16, t149] (some ⟨g206, 0, none⟩) 3 t175 _ ⟨Rd.lit (l := []) (rest := [b1 g18 a14 a15 a16 a17, b2 g21 0 0 0 0 0 0 0 0, b3 g201 a14 a15, b4 g206 24 a16 t149, b2 g231 0 0 0 0 0 0 0 0]) (xs := [24, a16, t149]) HS.out 3 rfl (by simp)⟩ ⟨HS.out.begin (l := []) (rest := [b1 g18 a14 a15 a16 a17, b2 g21 0 0 0 0 0 0 0 0, b3 g201 a14 a15, b4 g206 24 a16 t149, b2 g231 0 0 0 0 0 0 0 0])⟩ HA176).mono ?_
              rintro e_ w235 ⟨rfl, hS⟩
              replace HS : Aside0 (Sep (fps []) w [b1 g18 a14 a15 a16 a17, b2 g21 0 0 0 0 0 0 0 0, b3 g201 a14 a15, b4 g206 24 a16 t149, b2 g231 0 0 0 0 0 0 0 0] w235) := ⟨HS.out.call (l := []) (rest := [b1 g18 a14 a15 a16 a17, b2 g21 0 0 0 0 0 0 0 0, b3 g201 a14 a15, b4 g206 24 a16 t149, b2 g231 0 0 0 0 0 0 0 0]) hS⟩
              clear hS
              refine ⟨_, rfl, ?_⟩
              refine hK.out _ _ (⟨blk_cellv (HS.out.at0) 2 rfl, blk_cellv (HS.out.at0) 0 rfl, blk_cellv (HS.out.at0) 1 rfl⟩) (fun hHeld => ?_)
              clear hK K
              refine norm_ (a' := ?_) ?_ ?_
              rotate_left
              · show Act.put _ (some 21) _ = _
                simp only [Act.put, List.setIfInBounds_toArray, List.set_cons_zero, List.set_cons_succ, i64_w, i32_w]
                rfl
              refine pure_ (i := 13) (N := some 25) (v := ?_) (a' := ?_) #[true, true, true, true, true, true, true, true, true, true, true, true, true, true, true, false] rfl rfl (by kernel_rfl) (fun _ _ _ h => h) (Or.inl ⟨by rfl, ?_⟩) ?_ ?_
              rotate_left
              · intro w'
                go_simp
                with_reducible rfl
              rotate_left
              · simp only [Act.put, List.setIfInBounds_toArray, List.set_cons_zero, List.set_cons_succ, i64_w, i32_w]
                rfl
              refine one_ (i := 15) (N := none) #[true, true, true, true, true, true, true, true, true, true, true, true, true, true, true, true] rfl rfl (by kernel_rfl) (by decide) (fun K hK => ?_)
              have hc237 := blk_cellv (v := .int .i64 0) (HS.out.at4) 0 rfl
              have hz238 := blk_fz (HS.out.at4) 0
              have hc239 := blk_cellv (v := .int .i64 0) (HS.out.at4) 1 rfl
              have hz240 := blk_fz (HS.out.at4) 1
              have hc241 := blk_cellv (v := .int .i64 0) (HS.out.at4) 2 rfl
              have hz242 := blk_fz (HS.out.at4) 2
              have hc243 := blk_cellv (v := .int .i64 0) (HS.out.at4) 3 rfl
              have hz244 := blk_fz (HS.out.at4) 3
              have hc245 := blk_cellv (v := .int .i64 0) (HS.out.at4) 4 rfl
              have hz246 := blk_fz (HS.out.at4) 4
              have hc247 := blk_cellv (v := .int .i64 0) (HS.out.at4) 5 rfl
              have hz248 := blk_fz (HS.out.at4) 5
              have hc249 := blk_cellv (v := .int .i64 0) (HS.out.at4) 6 rfl
              have hz250 := blk_fz (HS.out.at4) 6
              have hc251 := blk_cellv (v := .int .i64 0) (HS.out.at4) 7 rfl
              have hz252 := blk_fz (HS.out.at4) 7
              refine store_step (w1 := (World.setCell (World.setCell (World.setCell (World.setCell (World.setCell (World.setCell (World.setCell (World.setCell w235 ⟨g231, 0, none⟩ (.int .i64 t175)) ⟨g231, 1, none⟩ (.int .i64 (wrap64 (a15 - 8)))) ⟨g231, 2, none⟩ (.int .i64 0)) ⟨g231, 3, none⟩ (.int .i64 0)) ⟨g231, 4, none⟩ (.int .i64 0)) ⟨g231, 5, none⟩ (.int .i64 0)) ⟨g231, 6, none⟩ (.int .i64 0)) ⟨g231, 7, none⟩ (.int .i64 0))) (by rfl) rfl ?hr ?_
              case hr => first | (go_simp; done) | (go_simp; rfl)
              clear hc237 hz238 hc239 hz240 hc241 hz242 hc243 hz244 hc245 hz246 hc247 hz248 hc249 hz250 hc251 hz252
              intro w236 hst
              replace HS : Aside0 (Sep (fps []) w [b1 g18 a14 a15 a16 a17, b2 g21 0 0 0 0 0 0 0 0, b3 g201 a14 a15, b4 g206 24 a16 t149, b2 g231 t175 (wrap64 (a15 - 8)) 0 0 0 0 0 0] w236) := ⟨by rw [hst]; exact HS.out.setAll (l1 := [b1 g18 a14 a15 a16 a17, b2 g21 0 0 0 0 0 0 0 0, b3 g201 a14 a15, b4 g206 24 a16 t149]) (l2 := []) [.int .i64 t175, .int .i64 (wrap64 (a15 - 8)), .int .i64 0, .int .i64 0, .int .i64 0, .int .i64 0, .int .i64 0, .int .i64 0] rfl⟩
              clear hst
              refine hK.out _ _ (⟨blk_cellv (HS.out.at0) 2 rfl, blk_cellv (HS.out.at0) 0 rfl, blk_cellv (HS.out.at0) 1 rfl⟩) (fun hHeld => ?_)
              clear hK K
              refine done_ (by kernel_rfl) ?_
              go_wp2_with fail
              go_meet
              case rel => exact ⟨g201, g206, g231, (by first | rfl | (simp [IntKind.wrap_u32]; done)), ⟨(((((HS.out).front 4 (by simp)).front 4 (by simp)).front 4 (by simp)).front 4 (by simp)).front 4 (by simp)⟩⟩
          · refine box_step (by rfl) (N := 5) rfl (cs := #[.int .i64 0, .int .i64 0, .int .i64 0, .int .i64 0, .int .i64 0, .int .i64 0, .int .i64 0, .int .i64 0]) (t := 120) ?hr ?_
            case hr => first | (go_simp; done) | (go_simp; rfl)
            intro g253 hg w254 hbox hb
            replace HS : Aside0 (Sep (fps []) w [b1 g18 a14 a15 a16 a17, b2 g21 0 0 0 0 0 0 0 0, b3 g201 a14 a15, b2 g253 0 0 0 0 0 0 0 0] w254) := ⟨HS.out.box hg hbox hb⟩
            clear hg hbox hb
            refine hK.out _ _ (⟨blk_cellv (HS.out.at0) 2 rfl, blk_cellv (HS.out.at0) 0 rfl, blk_cellv (HS.out.at0) 1 rfl⟩) (fun hHeld => ?_)
            clear hK K
            refine norm_ (a' := ?_) ?_ ?_
            rotate_left
            · show Act.put _ (some 5) _ = _
              simp only [Act.put, List.setIfInBounds_toArray, List.set_cons_zero, List.set_cons_succ, i64_w, i32_w]
              rfl
            refine one_ (i := 8) (N := some 20) #[true, true, true, true, true, true, true, true, true, false, true, true, true, false, true, false] rfl rfl (by kernel_rfl) (by decide) (fun K hK => ?_)
            refine slice_step (n := 3) (by rfl) (N := 20) rfl (cs := #[.int .i64 24, .int .i64 a16, .int .i64 t149]) (t := 3) ?hr ?_
            case hr => first | (go_simp; done) | (go_simp; rfl)
            intro g256 hg w257 hbox hb
            replace HS : Aside0 (Sep (fps []) w [b1 g18 a14 a15 a16 a17, b2 g21 0 0 0 0 0 0 0 0, b3 g201 a14 a15, b2 g253 0 0 0 0 0 0 0 0, b4 g256 24 a16 t149] w257) := ⟨HS.out.box hg hbox hb⟩
            clear hg hbox hb
            refine hK.out _ _ (⟨blk_cellv (HS.out.at0) 2 rfl, blk_cellv (HS.out.at0) 0 rfl, blk_cellv (HS.out.at0) 1 rfl⟩) (fun hHeld => ?_)
            clear hK K
            refine norm_ (a' := ?_) ?_ ?_
            rotate_left
            · show Act.put _ (some 20) _ = _
              simp only [Act.put, List.setIfInBounds_toArray, List.set_cons_zero, List.set_cons_succ, i64_w, i32_w]
              rfl
            refine one_ (i := 9) (N := some 21) #[true, true, true, true, true, true, true, true, true, true, true, true, true, false, true, false] rfl rfl (by kernel_rfl) (by decide) (fun K hK => ?_)
            refine goes_ Try.func106 (by kernel_rfl) rfl #[.slice (some ⟨g256, 0, none⟩) 3 3] (by rfl) rfl rfl (by (try simp only [List.map_toArray, List.map_cons, List.map_nil]); first | done | rfl) ?_
            refine (ratio_Add.calls _ [24, a16, t149] (some ⟨g256, 0, none⟩) 3 t175 _ ⟨Rd.lit (l := []) (rest := [b1 g18 a14 a15 a16 a17, b2 g21 0 0 0 0 0 0 0 0, b3 g201 a14 a15, b2 g253 0 0 0 0 0 0 0 0, b4 g256 24 a16 t149]) (xs := [24, a16, t149]) HS.out 4 rfl (by simp)⟩ ⟨HS.out.begin (l := []) (rest := [b1 g18 a14 a15 a16 a17, b2 g21 0 0 0 0 0 0 0 0, b3 g201 a14 a15, b2 g253 0 0 0 0 0 0 0 0, b4 g256 24 a16 t149])⟩ HA176).mono ?_
            rintro e_ w260 ⟨rfl, hS⟩
            replace HS : Aside0 (Sep (fps []) w [b1 g18 a14 a15 a16 a17, b2 g21 0 0 0 0 0 0 0 0, b3 g201 a14 a15, b2 g253 0 0 0 0 0 0 0 0, b4 g256 24 a16 t149] w260) := ⟨HS.out.call (l := []) (rest := [b1 g18 a14 a15 a16 a17, b2 g21 0 0 0 0 0 0 0 0, b3 g201 a14 a15, b2 g253 0 0 0 0 0 0 0 0, b4 g256 24 a16 t149]) hS⟩
            clear hS
            refine ⟨_, rfl, ?_⟩
            refine hK.out _ _ (⟨blk_cellv (HS.out.at0) 2 rfl, blk_cellv (HS.out.at0) 0 rfl, blk_cellv (HS.out.at0) 1 rfl⟩) (fun hHeld => ?_)
            clear hK K
            refine norm_ (a' := ?_) ?_ ?_
            rotate_left
            · show Act.put _ (some 21) _ = _
              simp only [Act.put, List.setIfInBounds_toArray, List.set_cons_zero, List.set_cons_succ, i64_w, i32_w]
              rfl
            refine pure_ (i := 13) (N := some 25) (v := ?_) (a' := ?_) #[true, true, true, true, true, true, true, true, true, true, true, true, true, true, true, false] rfl rfl (by kernel_rfl) (fun _ _ _ h => h) (Or.inl ⟨by rfl, ?_⟩) ?_ ?_
            rotate_left
            · intro w'
              go_simp
              with_reducible rfl
            rotate_left
            · simp only [Act.put, List.setIfInBounds_toArray, List.set_cons_zero, List.set_cons_succ, i64_w, i32_w]
              rfl
            refine one_ (i := 15) (N := none) #[true, true, true, true, true, true, true, true, true, true, true, true, true, true, true, true] rfl rfl (by kernel_rfl) (by decide) (fun K hK => ?_)
            have hc262 := blk_cellv (v := .int .i64 0) (HS.out.at3) 0 rfl
            have hz263 := blk_fz (HS.out.at3) 0
            have hc264 := blk_cellv (v := .int .i64 0) (HS.out.at3) 1 rfl
            have hz265 := blk_fz (HS.out.at3) 1
            have hc266 := blk_cellv (v := .int .i64 0) (HS.out.at3) 2 rfl
            have hz267 := blk_fz (HS.out.at3) 2
            have hc268 := blk_cellv (v := .int .i64 0) (HS.out.at3) 3 rfl
            have hz269 := blk_fz (HS.out.at3) 3
            have hc270 := blk_cellv (v := .int .i64 0) (HS.out.at3) 4 rfl
            have hz271 := blk_fz (HS.out.at3) 4
            have hc272 := blk_cellv (v := .int .i64 0) (HS.out.at3) 5 rfl
            have hz273 := blk_fz (HS.out.at3) 5
            have hc274 := blk_cellv (v := .int .i64 0) (HS.out.at3) 6 rfl
            have hz275 := blk_fz (HS.out.at3) 6
            have hc276 := blk_cellv (v := .int .i64 0) (HS.out.at3) 7 rfl
            have hz277 := blk_fz (HS.out.at3) 7
            refine store_step (w1 := (World.setCell (World.setCell (World.setCell (World.setCell (World.setCell (World.setCell (World.setCell (World.setCell w260 ⟨g253, 0, none⟩ (.int .i64 t175)) ⟨g253, 1, none⟩ (.int .i64 (wrap64 (a15 - 8)))) ⟨g253, 2, none⟩ (.int .i64 0)) ⟨g253, 3, none⟩ (.int .i64 0)) ⟨g253, 4, none⟩ (.int .i64 0)) ⟨g253, 5, none⟩ (.int .i64 0)) ⟨g253, 6, none⟩ (.int .i64 0)) ⟨g253, 7, none⟩ (.int .i64 0))) (by rfl) rfl ?hr ?_
            case hr => first | (go_simp; done) | (go_simp; rfl)
            clear hc262 hz263 hc264 hz265 hc266 hz267 hc268 hz269 hc270 hz271 hc272 hz273 hc274 hz275 hc276 hz277
            intro w261 hst
            replace HS : Aside0 (Sep (fps []) w [b1 g18 a14 a15 a16 a17, b2 g21 0 0 0 0 0 0 0 0, b3 g201 a14 a15, b2 g253 t175 (wrap64 (a15 - 8)) 0 0 0 0 0 0, b4 g256 24 a16 t149] w261) := ⟨by rw [hst]; exact HS.out.setAll (l1 := [b1 g18 a14 a15 a16 a17, b2 g21 0 0 0 0 0 0 0 0, b3 g201 a14 a15]) (l2 := [b4 g256 24 a16 t149]) [.int .i64 t175, .int .i64 (wrap64 (a15 - 8)), .int .i64 0, .int .i64 0, .int .i64 0, .int .i64 0, .int .i64 0, .int .i64 0] rfl⟩
            clear hst
            refine hK.out _ _ (⟨blk_cellv (HS.out.at0) 2 rfl, blk_cellv (HS.out.at0) 0 rfl, blk_cellv (HS.out.at0) 1 rfl⟩) (fun hHeld => ?_)
            clear hK K
            refine done_ (by kernel_rfl) ?_
            go_wp2_with fail
            go_meet
            case rel => exact ⟨g201, g256, g253, (by first | rfl | (simp [IntKind.wrap_u32]; done)), ⟨(((((HS.out).front 3 (by simp)).front 4 (by simp)).front 4 (by simp)).front 4 (by simp)).front 4 (by simp)⟩⟩
        · refine box_step (by rfl) (N := 5) rfl (cs := #[.int .i64 0, .int .i64 0, .int .i64 0, .int .i64 0, .int .i64 0, .int .i64 0, .int .i64 0, .int .i64 0]) (t := 120) ?hr ?_
          case hr => first | (go_simp; done) | (go_simp; rfl)
          intro g278 hg w279 hbox hb
          replace HS : Aside0 (Sep (fps []) w [b1 g18 a14 a15 a16 a17, b2 g21 0 0 0 0 0 0 0 0, b3 g201 a14 a15, b2 g278 0 0 0 0 0 0 0 0] w279) := ⟨HS.out.box hg hbox hb⟩
          clear hg hbox hb
          refine hK.out _ _ (⟨blk_cellv (HS.out.at0) 2 rfl, blk_cellv (HS.out.at0) 0 rfl, blk_cellv (HS.out.at0) 1 rfl⟩) (fun hHeld => ?_)
          clear hK K
          refine norm_ (a' := ?_) ?_ ?_
          rotate_left
          · show Act.put _ (some 5) _ = _
            simp only [Act.put, List.setIfInBounds_toArray, List.set_cons_zero, List.set_cons_succ, i64_w, i32_w]
            rfl
          refine one_ (i := 7) (N := some 19) #[true, true, true, true, true, true, true, true, false, false, true, true, true, false, true, false] rfl rfl (by kernel_rfl) (by decide) (fun K hK => ?_)
          refine goes_ Try.func107 (by kernel_rfl) rfl #[.slice (some ⟨g201, 0, none⟩) 2 2] (by rfl) rfl rfl (by (try simp only [List.map_toArray, List.map_cons, List.map_nil]); first | done | rfl) ?_
          refine (ratio_Mul.calls _ [a14, a15] (some ⟨g201, 0, none⟩) 2 t149 _ ⟨Rd.lit (l := []) (rest := [b1 g18 a14 a15 a16 a17, b2 g21 0 0 0 0 0 0 0 0, b3 g201 a14 a15, b2 g278 0 0 0 0 0 0 0 0]) (xs := [a14, a15]) HS.out 2 rfl (by simp)⟩ ⟨HS.out.begin (l := []) (rest := [b1 g18 a14 a15 a16 a17, b2 g21 0 0 0 0 0 0 0 0, b3 g201 a14 a15, b2 g278 0 0 0 0 0 0 0 0])⟩ HA150).mono ?_
          rintro e_ w282 ⟨rfl, hS⟩
          replace HS : Aside0 (Sep (fps []) w [b1 g18 a14 a15 a16 a17, b2 g21 0 0 0 0 0 0 0 0, b3 g201 a14 a15, b2 g278 0 0 0 0 0 0 0 0] w282) := ⟨HS.out.call (l := []) (rest := [b1 g18 a14 a15 a16 a17, b2 g21 0 0 0 0 0 0 0 0, b3 g201 a14 a15, b2 g278 0 0 0 0 0 0 0 0]) hS⟩
          clear hS
          refine ⟨_, rfl, ?_⟩
          refine hK.out _ _ (⟨blk_cellv (HS.out.at0) 2 rfl, blk_cellv (HS.out.at0) 0 rfl, blk_cellv (HS.out.at0) 1 rfl⟩) (fun hHeld => ?_)
          clear hK K
          refine norm_ (a' := ?_) ?_ ?_
          rotate_left
          · show Act.put _ (some 19) _ = _
            simp only [Act.put, List.setIfInBounds_toArray, List.set_cons_zero, List.set_cons_succ, i64_w, i32_w]
            rfl
          refine one_ (i := 8) (N := some 20) #[true, true, true, true, true, true, true, true, true, false, true, true, true, false, true, false] rfl rfl (by kernel_rfl) (by decide) (fun K hK => ?_)
          refine slice_step (n := 3) (by rfl) (N := 20) rfl (cs := #[.int .i64 24, .int .i64 a16, .int .i64 t149]) (t := 3) ?hr ?_
          case hr => first | (go_simp; done) | (go_simp; rfl)
          intro g283 hg w284 hbox hb
          replace HS : Aside0 (Sep (fps []) w [b1 g18 a14 a15 a16 a17, b2 g21 0 0 0 0 0 0 0 0, b3 g201 a14 a15, b2 g278 0 0 0 0 0 0 0 0, b4 g283 24 a16 t149] w284) := ⟨HS.out.box hg hbox hb⟩
          clear hg hbox hb
          refine hK.out _ _ (⟨blk_cellv (HS.out.at0) 2 rfl, blk_cellv (HS.out.at0) 0 rfl, blk_cellv (HS.out.at0) 1 rfl⟩) (fun hHeld => ?_)
          clear hK K
          refine norm_ (a' := ?_) ?_ ?_
          rotate_left
          · show Act.put _ (some 20) _ = _
            simp only [Act.put, List.setIfInBounds_toArray, List.set_cons_zero, List.set_cons_succ, i64_w, i32_w]
            rfl
          refine one_ (i := 9) (N := some 21) #[true, true, true, true, true, true, true, true, true, true, true, true, true, false, true, false] rfl rfl (by kernel_rfl) (by decide) (fun K hK => ?_)
          refine goes_ Try.func106 (by kernel_rfl) rfl #[.slice (some ⟨g283, 0, none⟩) 3 3] (by rfl) rfl rfl (by (try simp only [List.map_toArray, List.map_cons, List.map_nil]); first | done | rfl) ?_
          refine (ratio_Add.calls _ [24, a16, t149] (some ⟨g283, 0, none⟩) 3 t175 _ ⟨Rd.lit (l := []) (rest := [b1 g18 a14 a15 a16 a17, b2 g21 0 0 0 0 0 0 0 0, b3 g201 a14 a15, b2 g278 0 0 0 0 0 0 0 0, b4 g283 24 a16 t149]) (xs := [24, a16, t149]) HS.out 4 rfl (by simp)⟩ ⟨HS.out.begin (l := []) (rest := [b1 g18 a14 a15 a16 a17, b2 g21 0 0 0 0 0 0 0 0, b3 g201 a14 a15, b2 g278 0 0 0 0 0 0 0 0, b4 g283 24 a16 t149])⟩ HA176).mono ?_
          rintro e_ w287 ⟨rfl, hS⟩
          replace HS : Aside0 (Sep (fps []) w [b1 g18 a14 a15 a16 a17, b2 g21 0 0 0 0 0 0 0 0, b3 g201 a14 a15, b2 g278 0 0 0 0 0 0 0 0, b4 g283 24 a16 t149] w287) := ⟨HS.out.call (l := []) (rest := [b1 g18 a14 a15 a16 a17, b2 g21 0 0 0 0 0 0 0 0, b3 g201 a14 a15, b2 g278 0 0 0 0 0 0 0 0, b4 g283 24 a16 t149]) hS⟩
          clear hS
          refine ⟨_, rfl, ?_⟩
          refine hK.out _ _ (⟨blk_cellv (HS.out.at0) 2 rfl, blk_cellv (HS.out.at0) 0 rfl, blk_cellv (HS.out.at0) 1 rfl⟩) (fun hHeld => ?_)
          clear hK K
          refine norm_ (a' := ?_) ?_ ?_
          rotate_left
          · show Act.put _ (some 21) _ = _
            simp only [Act.put, List.setIfInBounds_toArray, List.set_cons_zero, List.set_cons_succ, i64_w, i32_w]
            rfl
          refine pure_ (i := 13) (N := some 25) (v := ?_) (a' := ?_) #[true, true, true, true, true, true, true, true, true, true, true, true, true, true, true, false] rfl rfl (by kernel_rfl) (fun _ _ _ h => h) (Or.inl ⟨by rfl, ?_⟩) ?_ ?_
          rotate_left
          · intro w'
            go_simp
            with_reducible rfl
          rotate_left
          · simp only [Act.put, List.setIfInBounds_toArray, List.set_cons_zero, List.set_cons_succ, i64_w, i32_w]
            rfl
          refine one_ (i := 15) (N := none) #[true, true, true, true, true, true, true, true, true, true, true, true, true, true, true, true] rfl rfl (by kernel_rfl) (by decide) (fun K hK => ?_)
          have hc289 := blk_cellv (v := .int .i64 0) (HS.out.at3) 0 rfl
          have hz290 := blk_fz (HS.out.at3) 0
          have hc291 := blk_cellv (v := .int .i64 0) (HS.out.at3) 1 rfl
          have hz292 := blk_fz (HS.out.at3) 1
          have hc293 := blk_cellv (v := .int .i64 0) (HS.out.at3) 2 rfl
          have hz294 := blk_fz (HS.out.at3) 2
          have hc295 := blk_cellv (v := .int .i64 0) (HS.out.at3) 3 rfl
          have hz296 := blk_fz (HS.out.at3) 3
          have hc297 := blk_cellv (v := .int .i64 0) (HS.out.at3) 4 rfl
          have hz298 := blk_fz (HS.out.at3) 4
          have hc299 := blk_cellv (v := .int .i64 0) (HS.out.at3) 5 rfl
          have hz300 := blk_fz (HS.out.at3) 5
          have hc301 := blk_cellv (v := .int .i64 0) (HS.out.at3) 6 rfl
          have hz302 := blk_fz (HS.out.at3) 6
          have hc303 := blk_cellv (v := .int .i64 0) (HS.out.at3) 7 rfl
          have hz304 := blk_fz (HS.out.at3) 7
          refine store_step (w1 := (World.setCell (World.setCell (World.setCell (World.setCell (World.setCell (World.setCell (World.setCell (World.setCell w287 ⟨g278, 0, none⟩ (.int .i64 t175)) ⟨g278, 1, none⟩ (.int .i64 (wrap64 (a15 - 8)))) ⟨g278, 2, none⟩ (.int .i64 0)) ⟨g278, 3, none⟩ (.int .i64 0)) ⟨g278, 4, none⟩ (.int .i64 0)) ⟨g278, 5, none⟩ (.int .i64 0)) ⟨g278, 6, none⟩ (.int .i64 0)) ⟨g278, 7, none⟩ (.int .i64 0))) (by rfl) rfl ?hr ?_
          case hr => first | (go_simp; done) | (go_simp; rfl)
          clear hc289 hz290 hc291 hz292 hc293 hz294 hc295 hz296 hc297 hz298 hc299 hz300 hc301 hz302 hc303 hz304
          intro w288 hst
          replace HS : Aside0 (Sep (fps []) w [b1 g18 a14 a15 a16 a17, b2 g21 0 0 0 0 0 0 0 0, b3 g201 a14 a15, b2 g278 t175 (wrap64 (a15 - 8)) 0 0 0 0 0 0, b4 g283 24 a16 t149] w288) := ⟨by rw [hst]; exact HS.out.setAll (l1 := [b1 g18 a14 a15 a16 a17, b2 g21 0 0 0 0 0 0 0 0, b3 g201 a14 a15]) (l2 := [b4 g283 24 a16 t149]) [.int .i64 t175, .int .i64 (wrap64 (a15 - 8)), .int .i64 0, .int .i64 0, .int .i64 0, .int .i64 0, .int .i64 0, .int .i64 0] rfl⟩
          clear hst
          refine hK.out _ _ (⟨blk_cellv (HS.out.at0) 2 rfl, blk_cellv (HS.out.at0) 0 rfl, blk_cellv (HS.out.at0) 1 rfl⟩) (fun hHeld => ?_)
          clear hK K
          refine done_ (by kernel_rfl) ?_
          go_wp2_with fail
          go_meet
          case rel => exact ⟨g201, g283, g278, (by first | rfl | (simp [IntKind.wrap_u32]; done)), ⟨(((((HS.out).front 3 (by simp)).front 4 (by simp)).front 4 (by simp)).front 4 (by simp)).front 4 (by simp)⟩⟩
      · refine box_step (by rfl) (N := 5) rfl (cs := #[.int .i64 0, .int .i64 0, .int .i64 0, .int .i64 0, .int .i64 0, .int .i64 0, .int .i64 0, .int .i64 0]) (t := 120) ?hr ?_
        case hr => first | (go_simp; done) | (go_simp; rfl)
        intro g305 hg w306 hbox hb
        replace HS : Aside0 (Sep (fps []) w [b1 g18 a14 a15 a16 a17, b2 g21 0 0 0 0 0 0 0 0, b2 g305 0 0 0 0 0 0 0 0] w306) := ⟨HS.out.box hg hbox hb⟩
        clear hg hbox hb
        refine hK.out _ _ (⟨blk_cellv (HS.out.at0) 2 rfl, blk_cellv (HS.out.at0) 0 rfl, blk_cellv (HS.out.at0) 1 rfl⟩) (fun hHeld => ?_)
        clear hK K
        refine norm_ (a' := ?_) ?_ ?_
        rotate_left
        · show Act.put _ (some 5) _ = _
          simp only [Act.put, List.setIfInBounds_toArray, List.set_cons_zero, List.set_cons_succ, i64_w, i32_w]
          rfl
        refine one_ (i := 6) (N := some 18) #[true, true, true, true, true, true, true, false, false, false, true, true, true, false, true, false] rfl rfl (by kernel_rfl) (by decide) (fun K hK => ?_)
        refine slice_step (n := 2) (by rfl) (N := 18) rfl (cs := #[.int .i64 a14, .int .i64 a15]) (t := 3) ?hr ?_
        case hr => first | (go_simp; done) | (go_simp; rfl)
        intro g308 hg w309 hbox hb
        replace HS : Aside0 (Sep (fps []) w [b1 g18 a14 a15 a16 a17, b2 g21 0 0 0 0 0 0 0 0, b2 g305 0 0 0 0 0 0 0 0, b3 g308 a14 a15] w309) := ⟨HS.out.box hg hbox hb⟩
        clear hg hbox hb
        refine hK.out _ _ (⟨blk_cellv (HS.out.at0) 2 rfl, blk_cellv (HS.out.at0) 0 rfl, blk_cellv (HS.out.at0) 1 rfl⟩) (fun hHeld => ?_)
        clear hK K
        refine norm_ (a' := ?_) ?_ ?_
        rotate_left
        · show Act.put _ (some 18) _ = _
          simp only [Act.put, List.setIfInBounds_toArray, List.set_cons_zero, List.set_cons_succ, i64_w, i32_w]
          rfl
        refine one_ (i := 7) (N := some 19) #[true, true, true, true, true, true, true, true, false, false, true, true, true, false, true, false] rfl rfl (by kernel_rfl) (by decide) (fun K hK => ?_)
        refine goes_ Try.func107 (by kernel_rfl) rfl #[.slice (some ⟨g308, 0, none⟩) 2 2] (by rfl) rfl rfl (by (try simp only [List.map_toArray, List.map_cons, List.map_nil]); first | done | rfl) ?_
        refine (ratio_Mul.calls _ [a14, a15] (some ⟨g308, 0, none⟩) 2 t149 _ ⟨Rd.lit (l := []) (rest := [b1 g18 a14 a15 a16 a17, b2 g21 0 0 0 0 0 0 0 0, b2 g305 0 0 0 0 0 0 0 0, b3 g308 a14 a15]) (xs := [a14, a15]) HS.out 3 rfl (by simp)⟩ ⟨HS.out.begin (l := []) (rest := [b1 g18 a14 a15 a16 a17, b2 g21 0 0 0 0 0 0 0 0, b2 g305 0 0 0 0 0 0 0 0, b3 g308 a14 a15])⟩ HA150).mono ?_
        rintro e_ w312 ⟨rfl, hS⟩
        replace HS : Aside0 (Sep (fps []) w [b1 g18 a14 a15 a16 a17, b2 g21 0 0 0 0 0 0 0 0, b2 g305 0 0 0 0 0 0 0 0, b3 g308 a14 a15] w312) := ⟨HS.out.call (l := []) (rest := [b1 g18 a14 a15 a16 a17, b2 g21 0 0 0 0 0 0 0 0, b2 g305 0 0 0 0 0 0 0 0, b3 g308 a14 a15]) hS⟩
        clear hS
        refine ⟨_, rfl, ?_⟩
        refine hK.out _ _ (⟨blk_cellv (HS.out.at0) 2 rfl, blk_cellv (HS.out.at0) 0 rfl, blk_cellv (HS.out.at0) 1 rfl⟩) (fun hHeld => ?_)
        clear hK K
        refine norm_ (a' := ?_) ?_ ?_
        rotate_left
        · show Act.put _ (some 19) _ = _
          simp only [Act.put, List.setIfInBounds_toArray, List.set_cons_zero, List.set_cons_succ, i64_w, i32_w]
          rfl
        refine one_ (i := 8) (N := some 20) #[true, true, true, true, true, true, true, true, true, false, true, true, true, false, true, false] rfl rfl (by kernel_rfl) (by decide) (fun K hK => ?_)
        refine slice_step (n := 3) (by rfl) (N := 20) rfl (cs := #[.int .i64 24, .int .i64 a16, .int .i64 t149]) (t := 3) ?hr ?_
        case hr => first | (go_simp; done) | (go_simp; rfl)
        intro g313 hg w314 hbox hb
        replace HS : Aside0 (Sep (fps []) w [b1 g18 a14 a15 a16 a17, b2 g21 0 0 0 0 0 0 0 0, b2 g305 0 0 0 0 0 0 0 0, b3 g308 a14 a15, b4 g313 24 a16 t149] w314) := ⟨HS.out.box hg hbox hb⟩
        clear hg hbox hb
        refine hK.out _ _ (⟨blk_cellv (HS.out.at0) 2 rfl, blk_cellv (HS.out.at0) 0 rfl, blk_cellv (HS.out.at0) 1 rfl⟩) (fun hHeld => ?_)
        clear hK K
        refine norm_ (a' := ?_) ?_ ?_
        rotate_left
        · show Act.put _ (some 20) _ = _
          simp only [Act.put, List.setIfInBounds_toArray, List.set_cons_zero, List.set_cons_succ, i64_w, i32_w]
          rfl
        refine one_ (i := 9) (N := some 21) #[true, true, true, true, true, true, true, true, true, true, true, true, true, false, true, false] rfl rfl (by kernel_rfl) (by decide) (fun K hK => ?_)
        refine goes_ Try.func106 (by kernel_rfl) rfl #[.slice (some ⟨g313, 0, none⟩) 3 3] (by rfl) rfl rfl (by (try simp only [List.map_toArray, List.map_cons, List.map_nil]); first | done | rfl) ?_
        refine (ratio_Add.calls _ [24, a16, t149] (some ⟨g313, 0, none⟩) 3 t175 _ ⟨Rd.lit (l := []) (rest := [b1 g18 a14 a15 a16 a17, b2 g21 0 0 0 0 0 0 0 0, b2 g305 0 0 0 0 0 0 0 0, b3 g308 a14 a15, b4 g313 24 a16 t149]) (xs := [24, a16, t149]) HS.out 4 rfl (by simp)⟩ ⟨HS.out.begin (l := []) (rest := [b1 g18 a14 a15 a16 a17, b2 g21 0 0 0 0 0 0 0 0, b2 g305 0 0 0 0 0 0 0 0, b3 g308 a14 a15, b4 g313 24 a16 t149])⟩ HA176).mono ?_
        rintro e_ w317 ⟨rfl, hS⟩
        replace HS : Aside0 (Sep (fps []) w [b1 g18 a14 a15 a16 a17, b2 g21 0 0 0 0 0 0 0 0, b2 g305 0 0 0 0 0 0 0 0, b3 g308 a14 a15, b4 g313 24 a16 t149] w317) := ⟨HS.out.call (l := []) (rest := [b1 g18 a14 a15 a16 a17, b2 g21 0 0 0 0 0 0 0 0, b2 g305 0 0 0 0 0 0 0 0, b3 g308 a14 a15, b4 g313 24 a16 t149]) hS⟩
        clear hS
        refine ⟨_, rfl, ?_⟩
        refine hK.out _ _ (⟨blk_cellv (HS.out.at0) 2 rfl, blk_cellv (HS.out.at0) 0 rfl, blk_cellv (HS.out.at0) 1 rfl⟩) (fun hHeld => ?_)
        clear hK K
        refine norm_ (a' := ?_) ?_ ?_
        rotate_left
        · show Act.put _ (some 21) _ = _
          simp only [Act.put, List.setIfInBounds_toArray, List.set_cons_zero, List.set_cons_succ, i64_w, i32_w]
          rfl
        refine pure_ (i := 13) (N := some 25) (v := ?_) (a' := ?_) #[true, true, true, true, true, true, true, true, true, true, true, true, true, true, true, false] rfl rfl (by kernel_rfl) (fun _ _ _ h => h) (Or.inl ⟨by rfl, ?_⟩) ?_ ?_
        rotate_left
        · intro w'
          go_simp
          with_reducible rfl
        rotate_left
        · simp only [Act.put, List.setIfInBounds_toArray, List.set_cons_zero, List.set_cons_succ, i64_w, i32_w]
          rfl
        refine one_ (i := 15) (N := none) #[true, true, true, true, true, true, true, true, true, true, true, true, true, true, true, true] rfl rfl (by kernel_rfl) (by decide) (fun K hK => ?_)
        have hc319 := blk_cellv (v := .int .i64 0) (HS.out.at2) 0 rfl
        have hz320 := blk_fz (HS.out.at2) 0
        have hc321 := blk_cellv (v := .int .i64 0) (HS.out.at2) 1 rfl
        have hz322 := blk_fz (HS.out.at2) 1
        have hc323 := blk_cellv (v := .int .i64 0) (HS.out.at2) 2 rfl
        have hz324 := blk_fz (HS.out.at2) 2
        have hc325 := blk_cellv (v := .int .i64 0) (HS.out.at2) 3 rfl
        have hz326 := blk_fz (HS.out.at2) 3
        have hc327 := blk_cellv (v := .int .i64 0) (HS.out.at2) 4 rfl
        have hz328 := blk_fz (HS.out.at2) 4
        have hc329 := blk_cellv (v := .int .i64 0) (HS.out.at2) 5 rfl
        have hz330 := blk_fz (HS.out.at2) 5
        have hc331 := blk_cellv (v := .int .i64 0) (HS.out.at2) 6 rfl
        have hz332 := blk_fz (HS.out.at2) 6
        have hc333 := blk_cellv (v := .int .i64 0) (HS.out.at2) 7 rfl
        have hz334 := blk_fz (HS.out.at2) 7
        refine store_step (w1 := (World.setCell (World.setCell (World.setCell (World.setCell (World.setCell (World.setCell (World.setCell (World.setCell w317 ⟨g305, 0, none⟩ (.int .i64 t175)) ⟨g305, 1, none⟩ (.int .i64 (wrap64 (a15 - 8)))) ⟨g305, 2, none⟩ (.int .i64 0)) ⟨g305, 3, none⟩ (.int .i64 0)) ⟨g305, 4, none⟩ (.int .i64 0)) ⟨g305, 5, none⟩ (.int .i64 0)) ⟨g305, 6, none⟩ (.int .i64 0)) ⟨g305, 7, none⟩ (.int .i64 0))) (by rfl) rfl ?hr ?_
        case hr => first | (go_simp; done) | (go_simp; rfl)
        clear hc319 hz320 hc321 hz322 hc323 hz324 hc325 hz326 hc327 hz328 hc329 hz330 hc331 hz332 hc333 hz334
        intro w318 hst
        replace HS : Aside0 (Sep (fps []) w [b1 g18 a14 a15 a16 a17, b2 g21 0 0 0 0 0 0 0 0, b2 g305 t175 (wrap64 (a15 - 8)) 0 0 0 0 0 0, b3 g308 a14 a15, b4 g313 24 a16 t149] w318) := ⟨by rw [hst]; exact HS.out.setAll (l1 := [b1 g18 a14 a15 a16 a17, b2 g21 0 0 0 0 0 0 0 0]) (l2 := [b3 g308 a14 a15, b4 g313 24 a16 t149]) [.int .i64 t175, .int .i64 (wrap64 (a15 - 8)), .int .i64 0, .int .i64 0, .int .i64 0, .int .i64 0, .int .i64 0, .int .i64 0] rfl⟩
        clear hst
        refine hK.out _ _ (⟨blk_cellv (HS.out.at0) 2 rfl, blk_cellv (HS.out.at0) 0 rfl, blk_cellv (HS.out.at0) 1 rfl⟩) (fun hHeld => ?_)
        clear hK K
        refine done_ (by kernel_rfl) ?_
        go_wp2_with fail
        go_meet
        case rel => exact ⟨g308, g313, g305, (by first | rfl | (simp [IntKind.wrap_u32]; done)), ⟨(((((HS.out).front 2 (by simp)).front 4 (by simp)).front 4 (by simp)).front 4 (by simp)).front 4 (by simp)⟩⟩
    case rest =>
      clear HS
      obtain ⟨g75, g152, g178, rfl, HS⟩ := hcut
      obtain ⟨w198, rfl⟩ : ∃ x : World, x = wc := ⟨_, rfl⟩
      replace HS : Aside0 (Sep (fps []) w [b1 g18 a14 a15 a16 a17, b2 g21 0 0 0 0 0 0 0 0, b2 g178 t175 (wrap64 (a15 - 8)) 0 0 0 0 0 0] w198) := ⟨HS.out.sub (.cons_cons _ (.cons_cons _ (.cons _ (.cons _ (.cons_cons _ .slnil)))))⟩
      have hc335 : w198.cell? ⟨g178, 1, none⟩ = some (.int .i64 (wrap64 (a15 - 8))) := blk_cellv (HS.out.at2) 1 rfl
      have hc336 : w198.cell? ⟨g178, 2, none⟩ = some (.int .i64 0) := blk_cellv (HS.out.at2) 2 rfl
      have hz337 : w198.frozen? ⟨g178, 2, none⟩ = false := blk_fz (HS.out.at2) 2
      go_wp2_with (first | ((with_reducible refine gate_store (t := 3) (p := 29) rfl ?_); refine store_event (w1 := (World.setCell w198 ⟨g178, 2, none⟩ (.int .i64 (wrap64 ((wrap64 (a15 - 8)) + 1))))) rfl (t := 3) (p := 29) rfl rfl ?hr ?_; (case hr => first | (go_simp; done) | (go_simp; rfl)); intro w338 hst; clear hc335 hc336 hz337; have hq0 : Sep (fps []) w [b1 g18 a14 a15 a16 a17, b2 g21 0 0 0 0 0 0 0 0, b2 g178 t175 (wrap64 (a15 - 8)) (wrap64 ((wrap64 (a15 - 8)) + 1)) 0 0 0 0 0] (World.setCell w198 ⟨g178, 2, none⟩ (.int .i64 (wrap64 ((wrap64 (a15 - 8)) + 1)))) := (HS.out).set1 (l1 := [b1 g18 a14 a15 a16 a17, b2 g21 0 0 0 0 0 0 0 0]) (l2 := []) 2 (.int .i64 (wrap64 ((wrap64 (a15 - 8)) + 1))); replace HS : Aside0 (Sep (fps []) w [b1 g18 a14 a15 a16 a17, b2 g21 0 0 0 0 0 0 0 0, b2 g178 t175 (wrap64 (a15 - 8)) (wrap64 ((wrap64 (a15 - 8)) + 1)) 0 0 0 0 0] w338) := ⟨by rw [hst]; exact hq0⟩; clear hq0; clear hst; have hc339 : w338.cell? ⟨g178, 1, none⟩ = some (.int .i64 (wrap64 (a15 - 8))) := blk_cellv (HS.out.at2) 1 rfl; have hc340 : w338.cell? ⟨g18, 1, none⟩ = some (.int .i64 a15) := blk_cellv (HS.out.at0) 1 rfl) | ((with_reducible refine gate_dst (N := 35) rfl ?_); refine slice_on (n := 2) ?hg (N := 35) ?hd (cs := #[.int .i64 (wrap64 (a15 - 8)), .int .i64 (wrap64 (a15 - 1))]) (t := 3) ?hr ?_; (case hd => rfl); (case hg => rfl); (case hr => first | (go_simp; done) | (go_simp; rfl)); intro g341 hg w342 hbox hb; clear hc339 hc340; replace HS : Aside0 (Sep (fps []) w [b1 g18 a14 a15 a16 a17, b2 g21 0 0 0 0 0 0 0 0, b2 g178 t175 (wrap64 (a15 - 8)) (wrap64 ((wrap64 (a15 - 8)) + 1)) 0 0 0 0 0, b3 g341 (wrap64 (a15 - 8)) (wrap64 (a15 - 1))] w342) := ⟨HS.out.box hg hbox hb⟩; clear hg hbox hb))
      obtain ⟨t344, HA345, H⟩ := bind_some H
      refine (ratio_Mul.calls _ [wrap64 (a15 - 8), wrap64 (a15 - 1)] (some ⟨g341, 0, none⟩) 2 t344 _ ⟨Rd.lit (l := []) (rest := [b1 g18 a14 a15 a16 a17, b2 g21 0 0 0 0 0 0 0 0, b2 g178 t175 (wrap64 (a15 - 8)) (wrap64 ((wrap64 (a15 - 8)) + 1)) 0 0 0 0 0, b3 g341 (wrap64 (a15 - 8)) (wrap64 (a15 - 1))]) (xs := [wrap64 (a15 - 8), wrap64 (a15 - 1)]) HS.out 3 rfl (by simp)⟩ ⟨HS.out.begin (l := []) (rest := [b1 g18 a14 a15 a16 a17, b2 g21 0 0 0 0 0 0 0 0, b2 g178 t175 (wrap64 (a15 - 8)) (wrap64 ((wrap64 (a15 - 8)) + 1)) 0 0 0 0 0, b3 g341 (wrap64 (a15 - 8)) (wrap64 (a15 - 1))])⟩ HA345).mono ?_
      rintro e_ w346 ⟨rfl, hS⟩
      replace HS : Aside0 (Sep (fps []) w [b1 g18 a14 a15 a16 a17, b2 g21 0 0 0 0 0 0 0 0, b2 g178 t175 (wrap64 (a15 - 8)) (wrap64 ((wrap64 (a15 - 8)) + 1)) 0 0 0 0 0, b3 g341 (wrap64 (a15 - 8)) (wrap64 (a15 - 1))] w346) := ⟨HS.out.call (l := []) (rest := [b1 g18 a14 a15 a16 a17, b2 g21 0 0 0 0 0 0 0 0, b2 g178 t175 (wrap64 (a15 - 8)) (wrap64 ((wrap64 (a15 - 8)) + 1)) 0 0 0 0 0, b3 g341 (wrap64 (a15 - 8)) (wrap64 (a15 - 1))]) hS⟩
      clear hS
      have hc347 : w346.cell? ⟨g178, 3, none⟩ = some (.int .i64 0) := blk_cellv (HS.out.at2) 3 rfl
      have hz348 : w346.frozen? ⟨g178, 3, none⟩ = false := blk_fz (HS.out.at2) 3
      go_wp2_with (first | ((with_reducible refine gate_store (t := 3) (p := 37) rfl ?_); refine store_event (w1 := (World.setCell w346 ⟨g178, 3, none⟩ (.int .i64 t344))) rfl (t := 3) (p := 37) rfl rfl ?hr ?_; (case hr => first | (go_simp; done) | (go_simp; rfl)); intro w349 hst; clear hc347 hz348; have hq0 : Sep (fps []) w [b1 g18 a14 a15 a16 a17, b2 g21 0 0 0 0 0 0 0 0, b2 g178 t175 (wrap64 (a15 - 8)) (wrap64 ((wrap64 (a15 - 8)) + 1)) t344 0 0 0 0, b3 g341 (wrap64 (a15 - 8)) (wrap64 (a15 - 1))] (World.setCell w346 ⟨g178, 3, none⟩ (.int .i64 t344)) := (HS.out).set1 (l1 := [b1 g18 a14 a15 a16 a17, b2 g21 0 0 0 0 0 0 0 0]) (l2 := [b3 g341 (wrap64 (a15 - 8)) (wrap64 (a15 - 1))]) 3 (.int .i64 t344); replace HS : Aside0 (Sep (fps []) w [b1 g18 a14 a15 a16 a17, b2 g21 0 0 0 0 0 0 0 0, b2 g178 t175 (wrap64 (a15 - 8)) (wrap64 ((wrap64 (a15 - 8)) + 1)) t344 0 0 0 0, b3 g341 (wrap64 (a15 - 8)) (wrap64 (a15 - 1))] w349) := ⟨by rw [hst]; exact hq0⟩; clear hq0; clear hst; replace HS : Aside0 (Sep (fps []) w [b1 g18 a14 a15 a16 a17, b2 g21 0 0 0 0 0 0 0 0, b2 g178 t175 (wrap64 (a15 - 8)) (wrap64 ((wrap64 (a15 - 8)) + 1)) t344 0 0 0 0] w349) := ⟨HS.out.sub (.cons_cons _ (.cons_cons _ (.cons_cons _ (.cons _ .slnil))))⟩; have hc350 : w349.cell? ⟨g18, 0, none⟩ = some (.int .i64 a14) := blk_cellv (HS.out.at0) 0 rfl; have hc351 : w349.cell? ⟨g18, 1, none⟩ = some (.int .i64 a15) := blk_cellv (HS.out.at0) 1 rfl) | ((with_reducible refine gate_dst (N := 43) rfl ?_); refine slice_on (n := 2) ?hg (N := 43) ?hd (cs := #[.int .i64 a14, .int .i64 (wrap64 (a15 + 1))]) (t := 3) ?hr ?_; (case hd => rfl); (case hg => rfl); (case hr => first | (go_simp; done) | (go_simp; rfl)); intro g352 hg w353 hbox hb; clear hc350 hc351; replace HS : Aside0 (Sep (fps []) w [b1 g18 a14 a15 a16 a17, b2 g21 0 0 0 0 0 0 0 0, b2 g178 t175 (wrap64 (a15 - 8)) (wrap64 ((wrap64 (a15 - 8)) + 1)) t344 0 0 0 0, b3 g352 a14 (wrap64 (a15 + 1))] w353) := ⟨HS.out.box hg hbox hb⟩; clear hg hbox hb))
      obtain ⟨t355, HA356, H⟩ := bind_some H
      refine (ratio_Mul.calls _ [a14, wrap64 (a15 + 1)] (some ⟨g352, 0, none⟩) 2 t355 _ ⟨Rd.lit (l := []) (rest := [b1 g18 a14 a15 a16 a17, b2 g21 0 0 0 0 0 0 0 0, b2 g178 t175 (wrap64 (a15 - 8)) (wrap64 ((wrap64 (a15 - 8)) + 1)) t344 0 0 0 0, b3 g352 a14 (wrap64 (a15 + 1))]) (xs := [a14, wrap64 (a15 + 1)]) HS.out 3 rfl (by simp)⟩ ⟨HS.out.begin (l := []) (rest := [b1 g18 a14 a15 a16 a17, b2 g21 0 0 0 0 0 0 0 0, b2 g178 t175 (wrap64 (a15 - 8)) (wrap64 ((wrap64 (a15 - 8)) + 1)) t344 0 0 0 0, b3 g352 a14 (wrap64 (a15 + 1))])⟩ HA356).mono ?_
      rintro e_ w357 ⟨rfl, hS⟩
      replace HS : Aside0 (Sep (fps []) w [b1 g18 a14 a15 a16 a17, b2 g21 0 0 0 0 0 0 0 0, b2 g178 t175 (wrap64 (a15 - 8)) (wrap64 ((wrap64 (a15 - 8)) + 1)) t344 0 0 0 0, b3 g352 a14 (wrap64 (a15 + 1))] w357) := ⟨HS.out.call (l := []) (rest := [b1 g18 a14 a15 a16 a17, b2 g21 0 0 0 0 0 0 0 0, b2 g178 t175 (wrap64 (a15 - 8)) (wrap64 ((wrap64 (a15 - 8)) + 1)) t344 0 0 0 0, b3 g352 a14 (wrap64 (a15 + 1))]) hS⟩
      clear hS
      have hc358 : w357.cell? ⟨g178, 5, none⟩ = some (.int .i64 0) := blk_cellv (HS.out.at2) 5 rfl
      have hz359 : w357.frozen? ⟨g178, 5, none⟩ = false := blk_fz (HS.out.at2) 5
      go_wp2_with (first | ((with_reducible refine gate_store (t := 3) (p := 45) rfl ?_); refine store_event (w1 := (World.setCell w357 ⟨g178, 5, none⟩ (.int .i64 t355))) rfl (t := 3) (p := 45) rfl rfl ?hr ?_; (case hr => first | (go_simp; done) | (go_simp; rfl)); intro w360 hst; clear hc358 hz359; have hq0 : Sep (fps []) w [b1 g18 a14 a15 a16 a17, b2 g21 0 0 0 0 0 0 0 0, b2 g178 t175 (wrap64 (a15 - 8)) (wrap64 ((wrap64 (a15 - 8)) + 1)) t344 0 t355 0 0, b3 g352 a14 (wrap64 (a15 + 1))] (World.setCell w357 ⟨g178, 5, none⟩ (.int .i64 t355)) := (HS.out).set1 (l1 := [b1 g18 a14 a15 a16 a17, b2 g21 0 0 0 0 0 0 0 0]) (l2 := [b3 g352 a14 (wrap64 (a15 + 1))]) 5 (.int .i64 t355); replace HS : Aside0 (Sep (fps []) w [b1 g18 a14 a15 a16 a17, b2 g21 0 0 0 0 0 0 0 0, b2 g178 t175 (wrap64 (a15 - 8)) (wrap64 ((wrap64 (a15 - 8)) + 1)) t344 0 t355 0 0, b3 g352 a14 (wrap64 (a15 + 1))] w360) := ⟨by rw [hst]; exact hq0⟩; clear hq0; clear hst; replace HS : Aside0 (Sep (fps []) w [b1 g18 a14 a15 a16 a17, b2 g21 0 0 0 0 0 0 0 0, b2 g178 t175 (wrap64 (a15 - 8)) (wrap64 ((wrap64 (a15 - 8)) + 1)) t344 0 t355 0 0] w360) := ⟨HS.out.sub (.cons_cons _ (.cons_cons _ (.cons_cons _ (.cons _ .slnil))))⟩; have hc361 : w360.cell? ⟨g178, 5, none⟩ = some (.int .i64 t355) := blk_cellv (HS.out.at2) 5 rfl) | ((with_reducible refine gate_dst (N := 48) rfl ?_); refine slice_on (n := 2) ?hg (N := 48) ?hd (cs := #[.int .i64 3, .int .i64 t355]) (t := 3) ?hr ?_; (case hd => rfl); (case hg => rfl); (case hr => first | (go_simp; done) | (go_simp; rfl)); intro g362 hg w363 hbox hb; clear hc361; replace HS : Aside0 (Sep (fps []) w [b1 g18 a14 a15 a16 a17, b2 g21 0 0 0 0 0 0 0 0, b2 g178 t175 (wrap64 (a15 - 8)) (wrap64 ((wrap64 (a15 - 8)) + 1)) t344 0 t355 0 0, b3 g362 3 t355] w363) := ⟨HS.out.box hg hbox hb⟩; clear hg hbox hb))
      obtain ⟨t365, HA366, H⟩ := bind_some H
      refine (ratio_Mul.calls _ [3, t355] (some ⟨g362, 0, none⟩) 2 t365 _ ⟨Rd.lit (l := []) (rest := [b1 g18 a14 a15 a16 a17, b2 g21 0 0 0 0 0 0 0 0, b2 g178 t175 (wrap64 (a15 - 8)) (wrap64 ((wrap64 (a15 - 8)) + 1)) t344 0 t355 0 0, b3 g362 3 t355]) (xs := [3, t355]) HS.out 3 rfl (by simp)⟩ ⟨HS.out.begin (l := []) (rest := [b1 g18 a14 a15 a16 a17, b2 g21 0 0 0 0 0 0 0 0, b2 g178 t175 (wrap64 (a15 - 8)) (wrap64 ((wrap64 (a15 - 8)) + 1)) t344 0 t355 0 0, b3 g362 3 t355])⟩ HA366).mono ?_
      rintro e_ w367 ⟨rfl, hS⟩
      replace HS : Aside0 (Sep (fps []) w [b1 g18 a14 a15 a16 a17, b2 g21 0 0 0 0 0 0 0 0, b2 g178 t175 (wrap64 (a15 - 8)) (wrap64 ((wrap64 (a15 - 8)) + 1)) t344 0 t355 0 0, b3 g362 3 t355] w367) := ⟨HS.out.call (l := []) (rest := [b1 g18 a14 a15 a16 a17, b2 g21 0 0 0 0 0 0 0 0, b2 g178 t175 (wrap64 (a15 - 8)) (wrap64 ((wrap64 (a15 - 8)) + 1)) t344 0 t355 0 0, b3 g362 3 t355]) hS⟩
      clear hS
      go_wp2_with (first | ((with_reducible refine gate_dst (N := 50) rfl ?_); refine slice_on (n := 2) ?hg (N := 50) ?hd (cs := #[.int .i64 t365, .int .i64 4]) (t := 3) ?hr ?_; (case hd => rfl); (case hg => rfl); (case hr => first | (go_simp; done) | (go_simp; rfl)); intro g368 hg w369 hbox hb; replace HS : Aside0 (Sep (fps []) w [b1 g18 a14 a15 a16 a17, b2 g21 0 0 0 0 0 0 0 0, b2 g178 t175 (wrap64 (a15 - 8)) (wrap64 ((wrap64 (a15 - 8)) + 1)) t344 0 t355 0 0, b3 g362 3 t355, b3 g368 t365 4] w369) := ⟨HS.out.box hg hbox hb⟩; clear hg hbox hb))
      obtain ⟨t371, HA372, H⟩ := bind_some H
      refine (ratio_Add.calls _ [t365, 4] (some ⟨g368, 0, none⟩) 2 t371 _ ⟨Rd.lit (l := []) (rest := [b1 g18 a14 a15 a16 a17, b2 g21 0 0 0 0 0 0 0 0, b2 g178 t175 (wrap64 (a15 - 8)) (wrap64 ((wrap64 (a15 - 8)) + 1)) t344 0 t355 0 0, b3 g362 3 t355, b3 g368 t365 4]) (xs := [t365, 4]) HS.out 4 rfl (by simp)⟩ ⟨HS.out.begin (l := []) (rest := [b1 g18 a14 a15 a16 a17, b2 g21 0 0 0 0 0 0 0 0, b2 g178 t175 (wrap64 (a15 - 8)) (wrap64 ((wrap64 (a15 - 8)) + 1)) t344 0 t355 0 0, b3 g362 3 t355, b3 g368 t365 4])⟩ HA372).mono ?_
      rintro e_ w373 ⟨rfl, hS⟩
      replace HS : Aside0 (Sep (fps []) w [b1 g18 a14 a15 a16 a17, b2 g21 0 0 0 0 0 0 0 0, b2 g178 t175 (wrap64 (a15 - 8)) (wrap64 ((wrap64 (a15 - 8)) + 1)) t344 0 t355 0 0, b3 g362 3 t355, b3 g368 t365 4] w373) := ⟨HS.out.call (l := []) (rest := [b1 g18 a14 a15 a16 a17, b2 g21 0 0 0 0 0 0 0 0, b2 g178 t175 (wrap64 (a15 - 8)) (wrap64 ((wrap64 (a15 - 8)) + 1)) t344 0 t355 0 0, b3 g362 3 t355, b3 g368 t365 4]) hS⟩
      clear hS
      have hc374 : w373.cell? ⟨g178, 4, none⟩ = some (.int .i64 0) := blk_cellv (HS.out.at2) 4 rfl
      have hz375 : w373.frozen? ⟨g178, 4, none⟩ = false := blk_fz (HS.out.at2) 4
      go_wp2_with (first | ((with_reducible refine gate_store (t := 3) (p := 52) rfl ?_); refine store_event (w1 := (World.setCell w373 ⟨g178, 4, none⟩ (.int .i64 t371))) rfl (t := 3) (p := 52) rfl rfl ?hr ?_; (case hr => first | (go_simp; done) | (go_simp; rfl)); intro w376 hst; clear hc374 hz375; have hq0 : Sep (fps []) w [b1 g18 a14 a15 a16 a17, b2 g21 0 0 0 0 0 0 0 0, b2 g178 t175 (wrap64 (a15 - 8)) (wrap64 ((wrap64 (a15 - 8)) + 1)) t344 t371 t355 0 0, b3 g362 3 t355, b3 g368 t365 4] (World.setCell w373 ⟨g178, 4, none⟩ (.int .i64 t371)) := (HS.out).set1 (l1 := [b1 g18 a14 a15 a16 a17, b2 g21 0 0 0 0 0 0 0 0]) (l2 := [b3 g362 3 t355, b3 g368 t365 4]) 4 (.int .i64 t371); replace HS : Aside0 (Sep (fps []) w [b1 g18 a14 a15 a16 a17, b2 g21 0 0 0 0 0 0 0 0, b2 g178 t175 (wrap64 (a15 - 8)) (wrap64 ((wrap64 (a15 - 8)) + 1)) t344 t371 t355 0 0, b3 g362 3 t355, b3 g368 t365 4] w376) := ⟨by rw [hst]; exact hq0⟩; clear hq0; clear hst; replace HS : Aside0 (Sep (fps []) w [b1 g18 a14 a15 a16 a17, b2 g21 0 0 0 0 0 0 0 0, b2 g178 t175 (wrap64 (a15 - 8)) (wrap64 ((wrap64 (a15 - 8)) + 1)) t344 t371 t355 0 0] w376) := ⟨HS.out.sub (.cons_cons _ (.cons_cons _ (.cons_cons _ (.cons _ (.cons _ .slnil)))))⟩))
      obtain ⟨t396, HA397, H⟩ := bind_some H
      obtain ⟨t402, HA403, H⟩ := bind_some H
      obtain ⟨t408, HA409, H⟩ := bind_some H
      obtain ⟨t414, HA415, H⟩ := bind_some H
      go_cut [] (fun wc => ∃ (g399 : Nat) (g405 : Nat) (g411 : Nat), Aside0 (Sep (fps []) w [b1 g18 a14 a15 a16 a17, b2 g21 0 0 0 0 0 0 0 0, b2 g178 t175 (wrap64 (a15 - 8)) (wrap64 ((wrap64 (a15 - 8)) + 1)) t344 t371 t355 t414 0, b3 g399 2 t396, b3 g405 2 (wrap64 ((wrap64 (a15 - 8)) + 1)), b3 g411 t402 t408] wc))
      case first =>
        go_wp2_with fail
        refine start_ (n := 15) (S := (fun w' => w'.cell? ⟨g178, 4, none⟩ = some (.int .i64 t371) ∧ w'.cell? ⟨g18, 3, none⟩ = some (.int .i64 a17) ∧ w'.cell? ⟨g178, 2, none⟩ = some (.int .i64 (wrap64 ((wrap64 (a15 - 8)) + 1))))) (ds := []) #[false, false, false, false, false, false, false, false, false, false, false, false, false, false, false] (by kernel_rfl) rfl rfl (⟨blk_cellv ((HS.out.drew).at2) 4 rfl, blk_cellv ((HS.out.drew).at0) 3 rfl, blk_cellv ((HS.out.drew).at2) 2 rfl⟩) (fun hHeld => ?_)
        have HS_ := Aside0.mk HS.out.drew
        clear HS
        generalize World.drew _ = w422 at HS_ hHeld ⊢
        have HS := HS_
        clear HS_
        refine pure_ (i := 0) (N := some 53) (v := ?_) (a' := ?_) #[true, false, false, false, false, false, false, false, false, false, false, false, false, false, false] rfl rfl (by kernel_rfl) (fun _ _ _ h => h) (Or.inl ⟨by rfl, ?_⟩) ?_ ?_
        rotate_left
        · intro w'
          go_simp
          with_reducible rfl
        rotate_left
        · simp only [Act.put, List.setIfInBounds_toArray, List.set_cons_zero, List.set_cons_succ, i64_w, i32_w]
          rfl
        refine pure_ (i := 2) (N := some 55) (v := ?_) (a' := ?_) #[true, false, true, false, false, false, false, false, false, false, false, false, false, false, false] rfl rfl (by kernel_rfl) (fun _ _ _ h => h) (Or.inl ⟨by rfl, ?_⟩) ?_ ?_
        rotate_left
        · intro w'
          go_simp
          with_reducible rfl
        rotate_left
        · simp only [Act.put, List.setIfInBounds_toArray, List.set_cons_zero, List.set_cons_succ, i64_w, i32_w]
          rfl
        refine pure_ (i := 7) (N := some 60) (v := ?_) (a' := ?_) #[true, false, true, false, false, false, false, true, false, false, false, false, false, false, false] rfl rfl (by kernel_rfl) (fun _ _ _ h => h) (Or.inl ⟨by rfl, ?_⟩) ?_ ?_
        rotate_left
        · intro w'
          go_simp
          with_reducible rfl
        rotate_left
        · simp only [Act.put, List.setIfInBounds_toArray, List.set_cons_zero, List.set_cons_succ, i64_w, i32_w]
          rfl
        refine take_ (i := 1) (N := some 54) (v := ?_) (a' := ?_) #[true, true, true, false, false, false, false, true, false, false, false, false, false, false, false] rfl rfl (by kernel_rfl) (fun _ _ _ h => h) (Or.inl ⟨by rfl, ?_⟩) hHeld ?_ ?_
        rotate_left
        · rintro w' hS'
          obtain ⟨s0, s1, s2⟩ := hS'
          go_simp
          with_reducible rfl
        rotate_left
        · simp only [Act.put, List.setIfInBounds_toArray, List.set_cons_zero, List.set_cons_succ, i64_w, i32_w]
          rfl
        refine take_ (i := 3) (N := some 56) (v := ?_) (a' := ?_) #[true, true, true, true, false, false, false, true, false, false, false, false, false, false, false] rfl rfl (by kernel_rfl) (fun _ _ _ h => h) (Or.inl ⟨by rfl, ?_⟩) hHeld ?_ ?_
        rotate_left
        · rintro w' hS'
          obtain ⟨s0, s1, s2⟩ := hS'
          go_simp
          with_reducible rfl
        rotate_left
        · simp only [Act.put, List.setIfInBounds_toArray, List.set_cons_zero, List.set_cons_succ, i64_w, i32_w]
          rfl
        refine take_ (i := 8) (N := some 61) (v := ?_) (a' := ?_) #[true, true, true, true, false, false, false, true, true, false, false, false, false, false, false] rfl rfl (by kernel_rfl) (fun _ _ _ h => h) (Or.inl ⟨by rfl, ?_⟩) hHeld ?_ ?_
        rotate_left
        · rintro w' hS'
          obtain ⟨s0, s1, s2⟩ := hS'
          go_simp
          with_reducible rfl
        rotate_left
        · simp only [Act.put, List.setIfInBounds_toArray, List.set_cons_zero, List.set_cons_succ, i64_w, i32_w]
          rfl
        refine two_ (i := 4) (j := 9) (Ni := some 57) (Nj := some 62) #[true, true, true, true, true, false, false, true, true, false, false, false, false, false, false] #[true, true, true, true, false, false, false, true, true, true, false, false, false, false, false] rfl rfl rfl rfl (by kernel_rfl) (by decide) (by decide) (fun K hK => ?_) (fun K hK => ?_)
        · refine goes_ Try.func108 (by kernel_rfl) rfl #[.int .i64 t371, .int .i64 a17] (by rfl) rfl rfl (by (try simp only [List.map_toArray, List.map_cons, List.map_nil]); first | done | rfl) ?_
          refine (ratio_Up.calls t371 a17 t396 _ ⟨HS.out.begin (l := []) (rest := [b1 g18 a14 a15 a16 a17, b2 g21 0 0 0 0 0 0 0 0, b2 g178 t175 (wrap64 (a15 - 8)) (wrap64 ((wrap64 (a15 - 8)) + 1)) t344 t371 t355 0 0])⟩ HA397).mono ?_
          rintro e_ w424 ⟨rfl, hS⟩
          replace HS : Aside0 (Sep (fps []) w [b1 g18 a14 a15 a16 a17, b2 g21 0 0 0 0 0 0 0 0, b2 g178 t175 (wrap64 (a15 - 8)) (wrap64 ((wrap64 (a15 - 8)) + 1)) t344 t371 t355 0 0] w424) := ⟨HS.out.call (l := []) (rest := [b1 g18 a14 a15 a16 a17, b2 g21 0 0 0 0 0 0 0 0, b2 g178 t175 (wrap64 (a15 - 8)) (wrap64 ((wrap64 (a15 - 8)) + 1)) t344 t371 t355 0 0]) hS⟩
          clear hS
          refine ⟨_, rfl, ?_⟩
          refine hK.out _ _ (⟨blk_cellv (HS.out.at2) 4 rfl, blk_cellv (HS.out.at0) 3 rfl, blk_cellv (HS.out.at2) 2 rfl⟩) (fun hHeld => ?_)
          clear hK K
          refine norm_ (a' := ?_) ?_ ?_
          rotate_left
          · show Act.put _ (some 57) _ = _
            simp only [Act.put, List.setIfInBounds_toArray, List.set_cons_zero, List.set_cons_succ, i64_w, i32_w]
            rfl
          refine two_ (i := 5) (j := 9) (Ni := some 58) (Nj := some 62) #[true, true, true, true, true, true, false, true, true, false, false, false, false, false, false] #[true, true, true, true, true, false, false, true, true, true, false, false, false, false, false] rfl rfl rfl rfl (by kernel_rfl) (by decide) (by decide) (fun K hK => ?_) (fun K hK => ?_)
          · refine slice_step (n := 2) (by rfl) (N := 58) rfl (cs := #[.int .i64 2, .int .i64 t396]) (t := 3) ?hr ?_
            case hr => first | (go_simp; done) | (go_simp; rfl)
            intro g425 hg w426 hbox hb
            replace HS : Aside0 (Sep (fps []) w [b1 g18 a14 a15 a16 a17, b2 g21 0 0 0 0 0 0 0 0, b2 g178 t175 (wrap64 (a15 - 8)) (wrap64 ((wrap64 (a15 - 8)) + 1)) t344 t371 t355 0 0, b3 g425 2 t396] w426) := ⟨HS.out.box hg hbox hb⟩
            clear hg hbox hb
            refine hK.out _ _ (⟨blk_cellv (HS.out.at2) 4 rfl, blk_cellv (HS.out.at0) 3 rfl, blk_cellv (HS.out.at2) 2 rfl⟩) (fun hHeld => ?_)
            clear hK K
            refine norm_ (a' := ?_) ?_ ?_
            rotate_left
            · show Act.put _ (some 58) _ = _
              simp only [Act.put, List.setIfInBounds_toArray, List.set_cons_zero, List.set_cons_succ, i64_w, i32_w]
              rfl
            refine two_ (i := 6) (j := 9) (Ni := some 59) (Nj := some 62) #[true, true, true, true, true, true, true, true, true, false, false, false, false, false, false] #[true, true, true, true, true, true, false, true, true, true, false, false, false, false, false] rfl rfl rfl rfl (by kernel_rfl) (by decide) (by decide) (fun K hK => ?_) (fun K hK => ?_)
            · refine goes_ Try.func107 (by kernel_rfl) rfl #[.slice (some ⟨g425, 0, none⟩) 2 2] (by rfl) rfl rfl (by (try simp only [List.map_toArray, List.map_cons, List.map_nil]); first | done | rfl) ?_
              refine (ratio_Mul.calls _ [2, t396] (some ⟨g425, 0, none⟩) 2 t402 _ ⟨Rd.lit (l := []) (rest := [b1 g18 a14 a15 a16 a17, b2 g21 0 0 0 0 0 0 0 0, b2 g178 t175 (wrap64 (a15 - 8)) (wrap64 ((wrap64 (a15 - 8)) + 1)) t344 t371 t355 0 0, b3 g425 2 t396]) (xs := [2, t396]) HS.out 3 rfl (by simp)⟩ ⟨HS.out.begin (l := []) (rest := [b1 g18 a14 a15 a16 a17, b2 g21 0 0 0 0 0 0 0 0, b2 g178 t175 (wrap64 (a15 - 8)) (wrap64 ((wrap64 (a15 - 8)) + 1)) t344 t371 t355 0 0, b3 g425 2 t396])⟩ HA403).mono ?_
              rintro e_ w429 ⟨rfl, hS⟩
              replace HS : Aside0 (Sep (fps []) w [b1 g18 a14 a15 a16 a17, b2 g21 0 0 0 0 0 0 0 0, b2 g178 t175 (wrap64 (a15 - 8)) (wrap64 ((wrap64 (a15 - 8)) + 1)) t344 t371 t355 0 0, b3 g425 2 t396] w429) := ⟨HS.out.call (l := []) (rest := [b1 g18 a14 a15 a16 a17, b2 g21 0 0 0 0 0 0 0 0, b2 g178 t175 (wrap64 (a15 - 8)) (wrap64 ((wrap64 (a15 - 8)) + 1)) t344 t371 t355 0 0, b3 g425 2 t396]) hS⟩
              clear hS
              refine ⟨_, rfl, ?_⟩
              refine hK.out _ _ (⟨blk_cellv (HS.out.at2) 4 rfl, blk_cellv (HS.out.at0) 3 rfl, blk_cellv (HS.out.at2) 2 rfl⟩) (fun hHeld => ?_)
              clear hK K
              refine norm_ (a' := ?_) ?_ ?_
              rotate_left
              · show Act.put _ (some 59) _ = _
                simp only [Act.put, List.setIfInBounds_toArray, List.set_cons_zero, List.set_cons_succ, i64_w, i32_w]
                rfl
              refine one_ (i := 9) (N := some 62) #[true, true, true, true, true, true, true, true, true, true, false, false, false, false, false] rfl rfl (by kernel_rfl) (by decide) (fun K hK => ?_)
              refine slice_step (n := 2) (by rfl) (N := 62) rfl (cs := #[.int .i64 2, .int .i64 (wrap64 ((wrap64 (a15 - 8)) + 1))]) (t := 3) ?hr ?_
              case hr => first | (go_simp; done) | (go_simp; rfl)
              intro g430 hg w431 hbox hb
              replace HS : Aside0 (Sep (fps []) w [b1 g18 a14 a15 a16 a17, b2 g21 0 0 0 0 0 0 0 0, b2 g178 t175 (wrap64 (a15 - 8)) (wrap64 ((wrap64 (a15 - 8)) + 1)) t344 t371 t355 0 0, b3 g425 2 t396, b3 g430 2 (wrap64 ((wrap64 (a15 - 8)) + 1))] w431) := ⟨HS.out.box hg hbox hb⟩
              clear hg hbox hb
              refine hK.out _ _ (⟨blk_cellv (HS.out.at2) 4 rfl, blk_cellv (HS.out.at0) 3 rfl, blk_cellv (HS.out.at2) 2 rfl⟩) (fun hHeld => ?_)
              clear hK K
              refine norm_ (a' := ?_) ?_ ?_
              rotate_left
              · show Act.put _ (some 62) _ = _
                simp only [Act.put, List.setIfInBounds_toArray, List.set_cons_zero, List.set_cons_succ, i64_w, i32_w]
                rfl
              refine one_ (i := 10) (N := some 63) #[true, true, true, true, true, true, true, true, true, true, true, false, false, false, false] rfl rfl (by kernel_rfl) (by decide) (fun K hK => ?_)
              refine goes_ Try.func107 (by kernel_rfl) rfl #[.slice (some ⟨g430, 0, none⟩) 2 2] (by rfl) rfl rfl (by (try simp only [List.map_toArray, List.map_cons, List.map_nil]); first | done | rfl) ?_
              refine (ratio_Mul.calls _ [2, wrap64 ((wrap64 (a15 - 8)) + 1)] (some ⟨g430, 0, none⟩) 2 t408 _ ⟨Rd.lit (l := []) (rest := [b1 g18 a14 a15 a16 a17, b2 g21 0 0 0 0 0 0 0 0, b2 g178 t175 (wrap64 (a15 - 8)) (wrap64 ((wrap64 (a15 - 8)) + 1)) t344 t371 t355 0 0, b3 g425 2 t396, b3 g430 2 (wrap64 ((wrap64 (a15 - 8)) + 1))]) (xs := [2, wrap64 ((wrap64 (a15 - 8)) + 1)]) HS.out 4 rfl (by simp)⟩ ⟨HS.out.begin (l := []) (rest := [b1 g18 a14 a15 a16 a17, b2 g21 0 0 0 0 0 0 0 0, b2 g178 t175 (wrap64 (a15 - 8)) (wrap64 ((wrap64 (a15 - 8)) + 1)) t344 t371 t355 0 0, b3 g425 2 t396, b3 g430 2 (wrap64 ((wrap64 (a15 - 8)) + 1))])⟩ HA409).mono ?_
              rintro e_ w434 ⟨rfl, hS⟩
              replace HS : Aside0 (Sep (fps []) w [b1 g18 a14 a15 a16 a17, b2 g21 0 0 0 0 0 0 0 0, b2 g178 t175 (wrap64 (a15 - 8)) (wrap64 ((wrap64 (a15 - 8)) + 1)) t344 t371 t355 0 0, b3 g425 2 t396, b3 g430 2 (wrap64 ((wrap64 (a15 - 8)) + 1))] w434) := ⟨HS.out.call (l := []) (rest := [b1 g18 a14 a15 a16 a17, b2 g21 0 0 0 0 0 0 0 0, b2 g178 t175 (wrap64 (a15 - 8)) (wrap64 ((wrap64 (a15 - 8)) + 1)) t344 t371 t355 0 0, b3 g425 2 t396, b3 g430 2 (wrap64 ((wrap64 (a15 - 8)) + 1))]) hS⟩
              clear hS
              refine ⟨_, rfl, ?_⟩
              refine hK.out _ _ (⟨blk_cellv (HS.out.at2) 4 rfl, blk_cellv (HS.out.at0) 3 rfl, blk_cellv (HS.out.at2) 2 rfl⟩) (fun hHeld => ?_)
              clear hK K
              refine norm_ (a' := ?_) ?_ ?_
              rotate_left
              · show Act.put _ (some 63) _ = _
                simp only [Act.put, List.setIfInBounds_toArray, List.set_cons_zero, List.set_cons_succ, i64_w, i32_w]
                rfl
              refine one_ (i := 11) (N := some 64) #[true, true, true, true, true, true, true, true, true, true, true, true, false, false, false] rfl rfl (by kernel_rfl) (by decide) (fun K hK => ?_)
              refine slice_step (n := 2) (by rfl) (N := 64) rfl (cs := #[.int .i64 t402, .int .i64 t408]) (t := 3) ?hr ?_
              case hr => first | (go_simp; done) | (go_simp; rfl)
              intro g435 hg w436 hbox hb
              replace HS : Aside0 (Sep (fps []) w [b1 g18 a14 a15 a16 a17, b2 g21 0 0 0 0 0 0 0 0, b2 g178 t175 (wrap64 (a15 - 8)) (wrap64 ((wrap64 (a15 - 8)) + 1)) t344 t371 t355 0 0, b3 g425 2 t396, b3 g430 2 (wrap64 ((wrap64 (a15 - 8)) + 1)), b3 g435 t402 t408] w436) := ⟨HS.out.box hg hbox hb⟩
              clear hg hbox hb
              refine hK.out _ _ (⟨blk_cellv (HS.out.at2) 4 rfl, blk_cellv (HS.out.at0) 3 rfl, blk_cellv (HS.out.at2) 2 rfl⟩) (fun hHeld => ?_)
              clear hK K
              refine norm_ (a' := ?_) ?_ ?_
              rotate_left
              · show Act.put _ (some 64) _ = _
                simp only [Act.put, List.setIfInBounds_toArray, List.set_cons_zero, List.set_cons_succ, i64_w, i32_w]
                rfl
              refine one_ (i := 12) (N := some 65) #[true, true, true, true, true, true, true, true, true, true, true, true, true, false, false] rfl rfl (by kernel_rfl) (by decide) (fun K hK => ?_)
              refine goes_ Try.func106 (by kernel_rfl) rfl #[.slice (some ⟨g435, 0, none⟩) 2 2] (by rfl) rfl rfl (by (try simp only [List.map_toArray, List.map_cons, List.map_nil]); first | done | rfl) ?_
              refine (ratio_Add.calls _ [t402, t408] (some ⟨g435, 0, none⟩) 2 t414 _ ⟨Rd.lit (l := []) (rest := [b1 g18 a14 a15 a16 a17, b2 g21 0 0 0 0 0 0 0 0, b2 g178 t175 (wrap64 (a15 - 8)) (wrap64 ((wrap64 (a15 - 8)) + 1)) t344 t371 t355 0 0, b3 g425 2 t396, b3 g430 2 (wrap64 ((wrap64 (a15 - 8)) + 1)), b3 g435 t402 t408]) (xs := [t402, t408]) HS.out 5 rfl (by simp)⟩ ⟨HS.out.begin (l := []) (rest := [b1 g18 a14 a15 a16 a17, b2 g21 0 0 0 0 0 0 0 0, b2 g178 t175 (wrap64 (a15 - 8)) (wrap64 ((wrap64 (a15 - 8)) + 1)) t344 t371 t355 0 0, b3 g425 2 t396, b3 g430 2 (wrap64 ((wrap64 (a15 - 8)) + 1)), b3 g435 t402 t408])⟩ HA415).mono ?_
              rintro e_ w439 ⟨rfl, hS⟩
              replace HS : Aside0 (Sep (fps []) w [b1 g18 a14 a15 a16 a17, b2 g21 0 0 0 0 0 0 0 0, b2 g178 t175 (wrap64 (a15 - 8)) (wrap64 ((wrap64 (a15 - 8)) + 1)) t344 t371 t355 0 0, b3 g425 2 t396, b3 g430 2 (wrap64 ((wrap64 (a15 - 8)) + 1)), b3 g435 t402 t408] w439) := ⟨HS.out.call (l := []) (rest := [b1 g18 a14 a15 a16 a17, b2 g21 0 0 0 0 0 0 0 0, b2 g178 t175 (wrap64 (a15 - 8)) (wrap64 ((wrap64 (a15 - 8)) + 1)) t344 t371 t355 0 0, b3 g425 2 t396, b3 g430 2 (wrap64 ((wrap64 (a15 - 8)) + 1)), b3 g435 t402 t408]) hS⟩
              clear hS
              refine ⟨_, rfl, ?_⟩
              refine hK.out _ _ (⟨blk_cellv (HS.out.at2) 4 rfl, blk_cellv (HS.out.at0) 3 rfl, blk_cellv (HS.out.at2) 2 rfl⟩) (fun hHeld => ?_)
              clear hK K
              refine norm_ (a' := ?_) ?_ ?_
              rotate_left
              · show Act.put _ (some 65) _ = _
                simp only [Act.put, List.setIfInBounds_toArray, List.set_cons_zero, List.set_cons_succ, i64_w, i32_w]
                rfl
              refine pure_ (i := 13) (N := some 66) (v := ?_) (a' := ?_) #[true, true, true, true, true, true, true, true, true, true, true, true, true, true, false] rfl rfl (by kernel_rfl) (fun _ _ _ h => h) (Or.inl ⟨by rfl, ?_⟩) ?_ ?_
              rotate_left
              · intro w'
                go_simp
                with_reducible rfl
              rotate_left
              · simp only [Act.put, List.setIfInBounds_toArray, List.set_cons_zero, List.set_cons_succ, i64_w, i32_w]
                rfl
              refine one_ (i := 14) (N := none) #[true, true, true, true, true, true, true, true, true, true, true, true, true, true, true] rfl rfl (by kernel_rfl) (by decide) (fun K hK => ?_)
              have hc441 := blk_cellv (v := .int .i64 0) (HS.out.at2) 6 rfl
              have hz442 := blk_fz (HS.out.at2) 6
              refine store_step (w1 := (World.setCell w439 ⟨g178, 6, none⟩ (.int .i64 t414))) (by rfl) rfl ?hr ?_
              case hr => first | (go_simp; done) | (go_simp; rfl)
              clear hc441 hz442
              intro w440 hst
              have hq0 : Sep (fps []) w [b1 g18 a14 a15 a16 a17, b2 g21 0 0 0 0 0 0 0 0, b2 g178 t175 (wrap64 (a15 - 8)) (wrap64 ((wrap64 (a15 - 8)) + 1)) t344 t371 t355 t414 0, b3 g425 2 t396, b3 g430 2 (wrap64 ((wrap64 (a15 - 8)) + 1)), b3 g435 t402 t408] (World.setCell w439 ⟨g178, 6, none⟩ (.int .i64 t414)) := (HS.out).set1 (l1 := [b1 g18 a14 a15 a16 a17, b2 g21 0 0 0 0 0 0 0 0]) (l2 := [b3 g425 2 t396, b3 g430 2 (wrap64 ((wrap64 (a15 - 8)) + 1)), b3 g435 t402 t408]) 6 (.int .i64 t414)
              have HS_ : Aside0 (Sep (fps []) w [b1 g18 a14 a15 a16 a17, b2 g21 0 0 0 0 0 0 0 0, b2 g178 t175 (wrap64 (a15 - 8)) (wrap64 ((wrap64 (a15 - 8)) + 1)) t344 t371 t355 t414 0, b3 g425 2 t396, b3 g430 2 (wrap64 ((wrap64 (a15 - 8)) + 1)), b3 g435 t402 t408] w440) := ⟨by rw [hst]; exact hq0⟩
              clear hq0
              clear HS hst
              have HS := HS_
              clear HS_
              refine hK.out _ _ (⟨blk_cellv (HS.out.at2) 4 rfl, blk_cellv (HS.out.at0) 3 rfl, blk_cellv (HS.out.at2) 2 rfl⟩) (fun hHeld => ?_)
              clear hK K
              refine done_ (by kernel_rfl) ?_
              go_wp2_with fail
              go_meet
              case rel => exact ⟨g425, g430, g435, ⟨((((((HS.out).front 5 (by simp)).front 5 (by simp)).front 5 (by simp)).front 5 (by simp)).front 5 (by simp)).front 5 (by simp)⟩⟩
            · refine slice_step (n := 2) (by rfl) (N := 62) rfl (cs := #[.int .i64 2, .int .i64 (wrap64 ((wrap64 (a15 - 8)) + 1))]) (t := 3) ?hr ?_
              case hr => first | (go_simp; done) | (go_simp; rfl)
              intro g443 hg w444 hbox hb
              replace HS : Aside0 (Sep (fps []) w [b1 g18 a14 a15 a16 a17, b2 g21 0 0 0 0 0 0 0 0, b2 g178 t175 (wrap64 (a15 - 8)) (wrap64 ((wrap64 (a15 - 8)) + 1)) t344 t371 t355 0 0, b3 g425 2 t396, b3 g443 2 (wrap64 ((wrap64 (a15 - 8)) + 1))] w444) := ⟨HS.out.box hg hbox hb⟩
              clear hg hbox hb
              refine hK.out _ _ (⟨blk_cellv (HS.out.at2) 4 rfl, blk_cellv (HS.out.at0) 3 rfl, blk_cellv (HS.out.at2) 2 rfl⟩) (fun hHeld => ?_)
              clear hK K
              refine norm_ (a' := ?_) ?_ ?_
              rotate_left
              · show Act.put _ (some 62) _ = _
                simp only [Act.put, List.setIfInBounds_toArray, List.set_cons_zero, List.set_cons_succ, i64_w, i32_w]
                rfl
              refine one_ (i := 6) (N := some 59) #[true, true, true, true, true, true, true, true, true, true, false, false, false, false, false] rfl rfl (by kernel_rfl) (by decide) (fun K hK => ?_)
              refine goes_ Try.func107 (by kernel_rfl) rfl #[.slice (some ⟨g425, 0, none⟩) 2 2] (by rfl) rfl rfl (by (try simp only [List.map_toArray, List.map_cons, List.map_nil]); first | done | rfl) ?_
              refine (ratio_Mul.calls _ [2, t396] (some ⟨g425, 0, none⟩) 2 t402 _ ⟨Rd.lit (l := []) (rest := [b1 g18 a14 a15 a16 a17, b2 g21 0 0 0 0 0 0 0 0, b2 g178 t175 (wrap64 (a15 - 8)) (wrap64 ((wrap64 (a15 - 8)) + 1)) t344 t371 t355 0 0, b3 g425 2 t396, b3 g443 2 (wrap64 ((wrap64 (a15 - 8)) + 1))]) (xs := [2, t396]) HS.out 3 rfl (by simp)⟩ ⟨HS.out.begin (l := []) (rest := [b1 g18 a14 a15 a16 a17, b2 g21 0 0 0 0 0 0 0 0, b2 g178 t175 (wrap64 (a15 - 8)) (wrap64 ((wrap64 (a15 - 8)) + 1)) t344 t371 t355 0 0, b3 g425 2 t396, b3 g443 2 (wrap64 ((wrap64 (a15 - 8)) + 1))])⟩ HA403).mono ?_
              rintro e_ w447 ⟨rfl, hS⟩
              replace HS : Aside0 (Sep (fps []) w [b1 g18 a14 a15 a16 a17, b2 g21 0 0 0 0 0 0 0 0, b2 g178 t175 (wrap64 (a15 - 8)) (wrap64 ((wrap64 (a15 - 8)) + 1)) t344 t371 t355 0 0, b3 g425 2 t396, b3 g443 2 (wrap64 ((wrap64 (a15 - 8)) + 1))] w447) := ⟨HS.out.call (l := []) (rest := [b1 g18 a14 a15 a16 a17, b2 g21 0 0 0 0 0 0 0 0, b2 g178 t175 (wrap64 (a15 - 8)) (wrap64 ((wrap64 (a15 - 8)) + 1)) t344 t371 t355 0 0, b3 g425 2 t396, b3 g443 2 (wrap64 ((wrap64 (a15 - 8)) + 1))]) hS⟩
              clear hS
              refine ⟨_, rfl, ?_⟩
              refine hK.out _ _ (⟨blk_cellv (HS.out.at2) 4 rfl, blk_cellv (HS.out.at0) 3 rfl, blk_cellv (HS.out.at2) 2 rfl⟩) (fun hHeld => ?_)
              clear hK K
              refine norm_ (a' := ?_) ?_ ?_
              rotate_left
              · show Act.put _ (some 59) _ = _
                simp only [Act.put, List.setIfInBounds_toArray, List.set_cons_zero, List.set_cons_succ, i64_w, i32_w]
                rfl
              refine one_ (i := 10) (N := some 63) #[true, true, true, true, true, true, true, true, true, true, true, false, false, false, false] rfl rfl (by kernel_rfl) (by decide) (fun K hK => ?_)
              refine goes_ Try.func107 (by kernel_rfl) rfl #[.slice (some ⟨g443, 0, none⟩) 2 2] (by rfl) rfl rfl (by (try simp only [List.map_toArray, List.map_cons, List.map_nil]); first | done | rfl) ?_
              refine (ratio_Mul.calls _ [2, wrap64 ((wrap64 (a15 - 8)) + 1)] (some ⟨g443, 0, none⟩) 2 t408 _ ⟨Rd.lit (l := []) (rest := [b1 g18 a14 a15 a16 a17, b2 g21 0 0 0 0 0 0 0 0, b2 g178 t175 (wrap64 (a15 - 8)) (wrap64 ((wrap64 (a15 - 8)) + 1)) t344 t371 t355 0 0, b3 g425 2 t396, b3 g443 2 (wrap64 ((wrap64 (a15 - 8)) + 1))]) (xs := [2, wrap64 ((wrap64 (a15 - 8)) + 1)]) HS.out 4 rfl (by simp)⟩ ⟨HS.out.begin (l := []) (rest := [b1 g18 a14 a15 a16 a17, b2 g21 0 0 0 0 0 0 0 0, b2 g178 t175 (wrap64 (a15 - 8)) (wrap64 ((wrap64 (a15 - 8)) + 1)) t344 t371 t355 0 0, b3 g425 2 t396, b3 g443 2 (wrap64 ((wrap64 (a15 - 8)) + 1))])⟩ HA409).mono ?_
              rintro e_ w449 ⟨rfl, hS⟩
              replace HS : Aside0 (Sep (fps []) w [b1 g18 a14 a15 a16 a17, b2 g21 0 0 0 0 0 0 0 0, b2 g178 t175 (wrap64 (a15 - 8)) (wrap64 ((wrap64 (a15 - 8)) + 1)) t344 t371 t355 0 0, b3 g425 2 t396, b3 g443 2 (wrap64 ((wrap64 (a15 - 8)) + 1))] w449) := ⟨HS.out.call (l := []) (rest := [b1 g18 a14 a15 a16 a17, b2 g21 0 0 0 0 0 0 0 0, b2 g178 t175 (wrap64 (a15 - 8)) (wrap64 ((wrap64 (a15 - 8)) + 1)) t344 t371 t355 0 0, b3 g425 2 t396, b3 g443 2 (wrap64 ((wrap64 (a15 - 8)) + 1))]) hS⟩
              clear hS
              refine ⟨_, rfl, ?_⟩
              refine hK.out _ _ (⟨blk_cellv (HS.out.at2) 4 rfl, blk_cellv (HS.out.at0) 3 rfl, blk_cellv (HS.out.at2) 2 rfl⟩) (fun hHeld => ?_)
              clear hK K
              refine norm_ (a' := ?_) ?_ ?_
              rotate_left
              · show Act.put _ (some 63) _ = _
                simp only [Act.put, List.setIfInBounds_toArray, List.set_cons_zero, List.set_cons_succ, i64_w, i32_w]
                rfl
              refine one_ (i := 11) (N := some 64) #[true, true, true, true, true, true, true, true, true, true, true, true, false, false, false] rfl rfl (by kernel_rfl) (by decide) (fun K hK => ?_)
              refine slice_step (n := 2) (by rfl) (N := 64) rfl (cs := #[.int .i64 t402, .int .i64 t408]) (t := 3) ?hr ?_
              case hr => first | (go_simp; done) | (go_simp; rfl)
              intro g450 hg w451 hbox hb
              replace HS : Aside0 (Sep (fps []) w [b1 g18 a14 a15 a16 a17, b2 g21 0 0 0 0 0 0 0 0, b2 g178 t175 (wrap64 (a15 - 8)) (wrap64 ((wrap64 (a15 - 8)) + 1)) t344 t371 t355 0 0, b3 g425 2 t396, b3 g443 2 (wrap64 ((wrap64 (a15 - 8)) + 1)), b3 g450 t402 t408] w451) := ⟨HS.out.box hg hbox hb⟩
              clear hg hbox hb
              refine hK.out _ _ (⟨blk_cellv (HS.out.at2) 4 rfl, blk_cellv (HS.out.at0) 3 rfl, blk_cellv (HS.out.at2) 2 rfl⟩) (fun hHeld => ?_)
              clear hK K
              refine norm_ (a' := ?_) ?_ ?_
              rotate_left
              · show Act.put _ (some 64) _ = _
                simp only [Act.put, List.setIfInBounds_toArray, List.set_cons_zero, List.set_cons_succ, i64_w, i32_w]
                rfl
              refine one_ (i := 12) (N := some 65) #[true, true, true, true, true, true, true, true, true, true, true, true, true, false, false] rfl rfl (by kernel_rfl) (by decide) (fun K hK => ?_)
              refine goes_ Try.func106 (by kernel_rfl) rfl #[.slice (some ⟨g450, 0, none⟩) 2 2] (by rfl) rfl rfl (by (try simp only [List.map_toArray, List.map_cons, List.map_nil]); first | done | rfl) ?_
              refine (ratio_Add.calls _ [t402, t408] (some ⟨g450, 0, none⟩) 2 t414 _ ⟨Rd.lit (l := []) (rest := [b1 g18 a14 a15 a16 a17, b2 g21 0 0 0 0 0 0 0 0, b2 g178 t175 (wrap64 (a15 - 8)) (wrap64 ((wrap64 (a15 - 8)) + 1)) t344 t371 t355 0 0, b3 g425 2 t396, b3 g443 2 (wrap64 ((wrap64 (a15 - 8)) + 1)), b3 g450 t402 t408]) (xs := [t402, t408]) HS.out 5 rfl (by simp)⟩ ⟨HS.out.begin (l := []) (rest := [b1 g18 a14 a15 a16 a17, b2 g21 0 0 0 0 0 0 0 0, b2 g178 t175 (wrap64 (a15 - 8)) (wrap64 ((wrap64 (a15 - 8)) + 1)) t344 t371 t355 0 0, b3 g425 2 t396, b3 g443 2 (wrap64 ((wrap64 (a15 - 8)) + 1)), b3 g450 t402 t408])⟩ HA415).mono ?_
              rintro e_ w454 ⟨rfl, hS⟩
              replace HS : Aside0 (Sep (fps []) w [b1 g18 a14 a15 a16 a17, b2 g21 0 0 0 0 0 0 0 0, b2 g178 t175 (wrap64 (a15 - 8)) (wrap64 ((wrap64 (a15 - 8)) + 1)) t344 t371 t355 0 0, b3 g425 2 t396, b3 g443 2 (wrap64 ((wrap64 (a15 - 8)) + 1)), b3 g450 t402 t408] w454) := ⟨HS.out.call (l := []) (rest := [b1 g18 a14 a15 a16 a17, b2 g21 0 0 0 0 0 0 0 0, b2 g178 t175 (wrap64 (a15 - 8)) (wrap64 ((wrap64 (a15 - 8)) + 1)) t344 t371 t355 0 0, b3 g425 2 t396, b3 g443 2 (wrap64 ((wrap64 (a15 - 8)) + 1)), b3 g450 t402 t408]) hS⟩
              clear hS
              refine ⟨_, rfl, ?_⟩
              refine hK.out _ _ (⟨blk_cellv (HS.out.at2) 4 rfl, blk_cellv (HS.out.at0) 3 rfl, blk_cellv (HS.out.at2) 2 rfl⟩) (fun hHeld => ?_)
              clear hK K
              refine norm_ (a' := ?_) ?_ ?_
              rotate_left
              · show Act.put _ (some 65) _ = _
                simp only [Act.put, List.setIfInBounds_toArray, List.set_cons_zero, List.set_cons_succ, i64_w, i32_w]
                rfl
              refine pure_ (i := 13) (N := some 66) (v := ?_) (a' := ?_) #[true, true, true, true, true, true, true, true, true, true, true, true, true, true, false] rfl rfl (by kernel_rfl) (fun _ _ _ h => h) (Or.inl ⟨by rfl, ?_⟩) ?_ ?_
              rotate_left
              · intro w'
                go_simp
                with_reducible rfl
              rotate_left
              · simp only [Act.put, List.setIfInBounds_toArray, List.set_cons_zero, List.set_cons_succ, i64_w, i32_w]
                rfl
              refine one_ (i := 14) (N := none) #[true, true, true, true, true, true, true, true, true, true, true, true, true, true, true] rfl rfl (by kernel_rfl) (by decide) (fun K hK => ?_)
              have hc456 := blk_cellv (v := .int .i64 0) (HS.out.at2) 6 rfl
              have hz457 := blk_fz (HS.out.at2) 6
              refine store_step (w1 := (World.setCell w454 ⟨g178, 6, none⟩ (.int .i64 t414))) (by rfl) rfl ?hr ?_
              case hr => first | (go_simp; done) | (go_simp; rfl)
              clear hc456 hz457
              intro w455 hst
              have hq0 : Sep (fps []) w [b1 g18 a14 a15 a16 a17, b2 g21 0 0 0 0 0 0 0 0, b2 g178 t175 (wrap64 (a15 - 8)) (wrap64 ((wrap64 (a15 - 8)) + 1)) t344 t371 t355 t414 0, b3 g425 2 t396, b3 g443 2 (wrap64 ((wrap64 (a15 - 8)) + 1)), b3 g450 t402 t408] (World.setCell w454 ⟨g178, 6, none⟩ (.int .i64 t414)) := (HS.out).set1 (l1 := [b1 g18 a14 a15 a16 a17, b2 g21 0 0 0 0 0 0 0 0]) (l2 := [b3 g425 2 t396, b3 g443 2 (wrap64 ((wrap64 (a15 - 8)) + 1)), b3 g450 t402 t408]) 6 (.int .i64 t414)
              have HS_ : Aside0 (Sep (fps []) w [b1 g18 a14 a15 a16 a17, b2 g21 0 0 0 0 0 0 0 0, b2 g178 t175 (wrap64 (a15 - 8)) (wrap64 ((wrap64 (a15 - 8)) + 1)) t344 t371 t355 t414 0, b3 g425 2 t396, b3 g443 2 (wrap64 ((wrap64 (a15 - 8)) + 1)), b3 g450 t402 t408] w455) := ⟨by rw [hst]; exact hq0⟩
              clear hq0
              clear HS hst
              have HS := HS_
              clear HS_
              refine hK.out _ _ (⟨blk_cellv (HS.out.at2) 4 rfl, blk_cellv (HS.out.at0) 3 rfl, blk_cellv (HS.out.at2) 2 rfl⟩) (fun hHeld => ?_)
              clear hK K
              refine done_ (by kernel_rfl) ?_
              go_wp2_with fail
              go_meet
              case rel => exact ⟨g425, g443, g450, ⟨((((((HS.out).front 5 (by simp)).front 5 (by simp)).front 5 (by simp)).front 5 (by simp)).front 5 (by simp)).front 5 (by simp)⟩⟩
          · refine slice_step (n := 2) (by rfl) (N := 62) rfl (cs := #[.int .i64 2, .int .i64 (wrap64 ((wrap64 (a15 - 8)) + 1))]) (t := 3) ?hr ?_
            case hr => first | (go_simp; done) | (go_simp; rfl)
            intro g458 hg w459 hbox hb
            replace HS : Aside0 (Sep (fps []) w [b1 g18 a14 a15 a16 a17, b2 g21 0 0 0 0 0 0 0 0, b2 g178 t175 (wrap64 (a15 - 8)) (wrap64 ((wrap64 (a15 - 8)) + 1)) t344 t371 t355 0 0, b3 g458 2 (wrap64 ((wrap64 (a15 - 8)) + 1))] w459) := ⟨HS.out.box hg hbox hb⟩
            clear hg hbox hb
            refine hK.out _ _ (⟨blk_cellv (HS.out.at2) 4 rfl, blk_cellv (HS.out.at0) 3 rfl, blk_cellv (HS.out.at2) 2 rfl⟩) (fun hHeld => ?_)
            clear hK K
            refine norm_ (a' := ?_) ?_ ?_
            rotate_left
            · show Act.put _ (some 62) _ = _
              simp only [Act.put, List.setIfInBounds_toArray, List.set_cons_zero, List.set_cons_succ, i64_w, i32_w]
              rfl
            refine one_ (i := 5) (N := some 58) #[true, true, true, true, true, true, false, true, true, true, false, false, false, false, false] rfl rfl (by kernel_rfl) (by decide) (fun K hK => ?_)
            refine slice_step (n := 2) (by rfl) (N := 58) rfl (cs := #[.int .i64 2, .int .i64 t396]) (t := 3) ?hr ?_
            case hr => first | (go_simp; done) | (go_simp; rfl)
            intro g461 hg w462 hbox hb
            replace HS : Aside0 (Sep (fps []) w [b1 g18 a14 a15 a16 a17, b2 g21 0 0 0 0 0 0 0 0, b2 g178 t175 (wrap64 (a15 - 8)) (wrap64 ((wrap64 (a15 - 8)) + 1)) t344 t371 t355 0 0, b3 g458 2 (wrap64 ((wrap64 (a15 - 8)) + 1)), b3 g461 2 t396] w462) := ⟨HS.out.box hg hbox hb⟩
            clear hg hbox hb
            refine hK.out _ _ (⟨blk_cellv (HS.out.at2) 4 rfl, blk_cellv (HS.out.at0) 3 rfl, blk_cellv (HS.out.at2) 2 rfl⟩) (fun hHeld => ?_)
            clear hK K
            refine norm_ (a' := ?_) ?_ ?_
            rotate_left
            · show Act.put _ (some 58) _ = _
              simp only [Act.put, List.setIfInBounds_toArray, List.set_cons_zero, List.set_cons_succ, i64_w, i32_w]
              rfl
            refine one_ (i := 6) (N := some 59) #[true, true, true, true, true, true, true, true, true, true, false, false, false, false, false] rfl rfl (by kernel_rfl) (by decide) (fun K hK => ?_)
            refine goes_ Try.func107 (by kernel_rfl) rfl #[.slice (some ⟨g461, 0, none⟩) 2 2] (by rfl) rfl rfl (by (try simp only [List.map_toArray, List.map_cons, List.map_nil]); first | done | rfl) ?_
            refine (ratio_Mul.calls _ [2, t396] (some ⟨g461, 0, none⟩) 2 t402 _ ⟨Rd.lit (l := []) (rest := [b1 g18 a14 a15 a16 a17, b2 g21 0 0 0 0 0 0 0 0, b2 g178 t175 (wrap64 (a15 - 8)) (wrap64 ((wrap64 (a15 - 8)) + 1)) t344 t371 t355 0 0, b3 g458 2 (wrap64 ((wrap64 (a15 - 8)) + 1)), b3 g461 2 t396]) (xs := [2, t396]) HS.out 4 rfl (by simp)⟩ ⟨HS.out.begin (l := []) (rest := [b1 g18 a14 a15 a16 a17, b2 g21 0 0 0 0 0 0 0 0, b2 g178 t175 (wrap64 (a15 - 8)) (wrap64 ((wrap64 (a15 - 8)) + 1)) t344 t371 t355 0 0, b3 g458 2 (wrap64 ((wrap64 (a15 - 8)) + 1)), b3 g461 2 t396])⟩ HA403).mono ?_
            rintro e_ w465 ⟨rfl, hS⟩
            replace HS : Aside0 (Sep (fps []) w [b1 g18 a14 a15 a16 a17, b2 g21 0 0 0 0 0 0 0 0, b2 g178 t175 (wrap64 (a15 - 8)) (wrap64 ((wrap64 (a15 - 8)) + 1)) t344 t371 t355 0 0, b3 g458 2 (wrap64 ((wrap64 (a15 - 8)) + 1)), b3 g461 2 t396] w465) := ⟨HS.out.call (l := []) (rest := [b1 g18 a14 a15 a16 a17, b2 g21 0 0 0 0 0 0 0 0, b2 g178 t175 (wrap64 (a15 - 8)) (wrap64 ((wrap64 (a15 - 8)) + 1)) t344 t371 t355 0 0, b3 g458 2 (wrap64 ((wrap64 (a15 - 8)) + 1)), b3 g461 2 t396]) hS⟩
            clear hS
            refine ⟨_, rfl, ?_⟩
            refine hK.out _ _ (⟨blk_cellv (HS.out.at2) 4 rfl, blk_cellv (HS.out.at0) 3 rfl, blk_cellv (HS.out.at2) 2 rfl⟩) (fun hHeld => ?_)
            clear hK K
            refine norm_ (a' := ?_) ?_ ?_
            rotate_left
            · show Act.put _ (some 59) _ = _
              simp only [Act.put, List.setIfInBounds_toArray, List.set_cons_zero, List.set_cons_succ, i64_w, i32_w]
              rfl
            refine one_ (i := 10) (N := some 63) #[true, true, true, true, true, true, true, true, true, true, true, false, false, false, false] rfl rfl (by kernel_rfl) (by decide) (fun K hK => ?_)
            refine goes_ Try.func107 (by kernel_rfl) rfl #[.slice (some ⟨g458, 0, none⟩) 2 2] (by rfl) rfl rfl (by (try simp only [List.map_toArray, List.map_cons, List.map_nil]); first | done | rfl) ?_
            refine (ratio_Mul.calls _ [2, wrap64 ((wrap64 (a15 - 8)) + 1)] (some ⟨g458, 0, none⟩) 2 t408 _ ⟨Rd.lit (l := []) (rest := [b1 g18 a14 a15 a16 a17, b2 g21 0 0 0 0 0 0 0 0, b2 g178 t175 (wrap64 (a15 - 8)) (wrap64 ((wrap64 (a15 - 8)) + 1)) t344 t371 t355 0 0, b3 g458 2 (wrap64 ((wrap64 (a15 - 8)) + 1)), b3 g461 2 t396]) (xs := [2, wrap64 ((wrap64 (a15 - 8)) + 1)]) HS.out 3 rfl (by simp)⟩ ⟨HS.out.begin (l := []) (rest := [b1 g18 a14 a15 a16 a17, b2 g21 0 0 0 0 0 0 0 0, b2 g178 t175 (wrap64 (a15 - 8)) (wrap64 ((wrap64 (a15 - 8)) + 1)) t344 t371 t355 0 0, b3 g458 2 (wrap64 ((wrap64 (a15 - 8)) + 1)), b3 g461 2 t396])⟩ HA409).mono ?_
            rintro e_ w467 ⟨rfl, hS⟩
            replace HS : Aside0 (Sep (fps []) w [b1 g18 a14 a15 a16 a17, b2 g21 0 0 0 0 0 0 0 0, b2 g178 t175 (wrap64 (a15 - 8)) (wrap64 ((wrap64 (a15 - 8)) + 1)) t344 t371 t355 0 0, b3 g458 2 (wrap64 ((wrap64 (a15 - 8)) + 1)), b3 g461 2 t396] w467) := ⟨HS.out.call (l := []) (rest := [b1 g18 a14 a15 a16 a17, b2 g21 0 0 0 0 0 0 0 0, b2 g178 t175 (wrap64 (a15 - 8)) (wrap64 ((wrap64 (a15 - 8)) + 1)) t344 t371 t355 0 0, b3 g458 2 (wrap64 ((wrap64 (a15 - 8)) + 1)), b3 g461 2 t396]) hS⟩
            clear hS
            refine ⟨_, rfl, ?_⟩
            refine hK.out _ _ (⟨blk_cellv (HS.out.at2) 4 rfl, blk_cellv (HS.out.at0) 3 rfl, blk_cellv (HS.out.at2) 2 rfl⟩) (fun hHeld => ?_)
            clear hK K
            refine norm_ (a' := ?_) ?_ ?_
            rotate_left
            · show Act.put _ (some 63) _ = _
              simp only [Act.put, List.setIfInBounds_toArray, List.set_cons_zero, List.set_cons_succ, i64_w, i32_w]
              rfl
            refine one_ (i := 11) (N := some 64) #[true, true, true, true, true, true, true, true, true, true, true, true, false, false, false] rfl rfl (by kernel_rfl) (by decide) (fun K hK => ?_)
            refine slice_step (n := 2) (by rfl) (N := 64) rfl (cs := #[.int .i64 t402, .int .i64 t408]) (t := 3) ?hr ?_
            case hr => first | (go_simp; done) | (go_simp; rfl)
            intro g468 hg w469 hbox hb
            replace HS : Aside0 (Sep (fps []) w [b1 g18 a14 a15 a16 a17, b2 g21 0 0 0 0 0 0 0 0, b2 g178 t175 (wrap64 (a15 - 8)) (wrap64 ((wrap64 (a15 - 8)) + 1)) t344 t371 t355 0 0, b3 g458 2 (wrap64 ((wrap64 (a15 - 8)) + 1)), b3 g461 2 t396, b3 g468 t402 t408] w469) := ⟨HS.out.box hg hbox hb⟩
            clear hg hbox hb
            refine hK.out _ _ (⟨blk_cellv (HS.out.at2) 4 rfl, blk_cellv (HS.out.at0) 3 rfl, blk_cellv (HS.out.at2) 2 rfl⟩) (fun hHeld => ?_)
            clear hK K
            refine norm_ (a' := ?_) ?_ ?_
            rotate_left
            · show Act.put _ (some 64) _ = _
              simp only [Act.put, List.setIfInBounds_toArray, List.set_cons_zero, List.set_cons_succ, i64_w, i32_w]
              rfl
            refine one_ (i := 12) (N := some 65) #[true, true, true, true, true, true, true, true, true, true, true, true, true, false, false] rfl rfl (by kernel_rfl) (by decide) (fun K hK => ?_)
            refine goes_ Try.func106 (by kernel_rfl) rfl #[.slice (some ⟨g468, 0, none⟩) 2 2] (by rfl) rfl rfl (by (try simp only [List.map_toArray, List.map_cons, List.map_nil]); first | done | rfl) ?_
            refine (ratio_Add.calls _ [t402, t408] (some ⟨g468, 0, none⟩) 2 t414 _ ⟨Rd.lit (l := []) (rest := [b1 g18 a14 a15 a16 a17, b2 g21 0 0 0 0 0 0 0 0, b2 g178 t175 (wrap64 (a15 - 8)) (wrap64 ((wrap64 (a15 - 8)) + 1)) t344 t371 t355 0 0, b3 g458 2 (wrap64 ((wrap64 (a15 - 8)) + 1)), b3 g461 2 t396, b3 g468 t402 t408]) (xs := [t402, t408]) HS.out 5 rfl (by simp)⟩ ⟨HS.out.begin (l := []) (rest := [b1 g18 a14 a15 a16 a17, b2 g21 0 0 0 0 0 0 0 0, b2 g178 t175 (wrap64 (a15 - 8)) (wrap64 ((wrap64 (a15 - 8)) + 1)) t344 t371 t355 0 0, b3 g458 2 (wrap64 ((wrap64 (a15 - 8)) + 1)), b3 g461 2 t396, b3 g468 t402 t408])⟩ HA415).mono ?_
            rintro e_ w472 ⟨rfl, hS⟩
            replace HS : Aside0 (Sep (fps []) w [b1 g18 a14 a15 a16 a17, b2 g21 0 0 0 0 0 0 0 0, b2 g178 t175 (wrap64 (a15 - 8)) (wrap64 ((wrap64 (a15 - 8)) + 1)) t344 t371 t355 0 0, b3 g458 2 (wrap64 ((wrap64 (a15 - 8)) + 1)), b3 g461 2 t396, b3 g468 t402 t408] w472) := ⟨HS.out.call (l := []) (rest := [b1 g18 a14 a15 a16 a17, b2 g21 0 0 0 0 0 0 0 0, b2 g178 t175 (wrap64 (a15 - 8)) (wrap64 ((wrap64 (a15 - 8)) + 1)) t344 t371 t355 0 0, b3 g458 2 (wrap64 ((wrap64 (a15 - 8)) + 1)), b3 g461 2 t396, b3 g468 t402 t408]) hS⟩
            clear hS
            refine ⟨_, rfl, ?_⟩
            refine hK.out _ _ (⟨blk_cellv (HS.out.at2) 4 rfl, blk_cellv (HS.out.at0) 3 rfl, blk_cellv (HS.out.at2) 2 rfl⟩) (fun hHeld => ?_)
            clear hK K
            refine norm_ (a' := ?_) ?_ ?_
            rotate_left
            · show Act.put _ (some 65) _ = _
              simp only [Act.put, List.setIfInBounds_toArray, List.set_cons_zero, List.set_cons_succ, i64_w, i32_w]
              rfl
            refine pure_ (i := 13) (N := some 66) (v := ?_) (a' := ?_) #[true, true, true, true, true, true, true, true, true, true, true, true, true, true, false] rfl rfl (by kernel_rfl) (fun _ _ _ h => h) (Or.inl ⟨by rfl, ?_⟩) ?_ ?_
            rotate_left
            · intro w'
              go_simp
              with_reducible rfl
            rotate_left
            · simp only [Act.put, List.setIfInBounds_toArray, List.set_cons_zero, List.set_cons_succ, i64_w, i32_w]
              rfl
            refine one_ (i := 14) (N := none) #[true, true, true, true, true, true, true, true, true, true, true, true, true, true, true] rfl rfl (by kernel_rfl) (by decide) (fun K hK => ?_)
            have hc474 := blk_cellv (v := .int .i64 0) (HS.out.at2) 6 rfl
            have hz475 := blk_fz (HS.out.at2) 6
            refine store_step (w1 := (World.setCell w472 ⟨g178, 6, none⟩ (.int .i64 t414))) (by rfl) rfl ?hr ?_
            case hr => first | (go_simp; done) | (go_simp; rfl)
            clear hc474 hz475
            intro w473 hst
            have hq0 : Sep (fps []) w [b1 g18 a14 a15 a16 a17, b2 g21 0 0 0 0 0 0 0 0, b2 g178 t175 (wrap64 (a15 - 8)) (wrap64 ((wrap64 (a15 - 8)) + 1)) t344 t371 t355 t414 0, b3 g458 2 (wrap64 ((wrap64 (a15 - 8)) + 1)), b3 g461 2 t396, b3 g468 t402 t408] (World.setCell w472 ⟨g178, 6, none⟩ (.int .i64 t414)) := (HS.out).set1 (l1 := [b1 g18 a14 a15 a16 a17, b2 g21 0 0 0 0 0 0 0 0]) (l2 := [b3 g458 2 (wrap64 ((wrap64 (a15 - 8)) + 1)), b3 g461 2 t396, b3 g468 t402 t408]) 6 (.int .i64 t414)
            have HS_ : Aside0 (Sep (fps []) w [b1 g18 a14 a15 a16 a17, b2 g21 0 0 0 0 0 0 0 0, b2 g178 t175 (wrap64 (a15 - 8)) (wrap64 ((wrap64 (a15 - 8)) + 1)) t344 t371 t355 t414 0, b3 g458 2 (wrap64 ((wrap64 (a15 - 8)) + 1)), b3 g461 2 t396, b3 g468 t402 t408] w473) := ⟨by rw [hst]; exact hq0⟩
            clear hq0
            clear HS hst
            have HS := HS_
            clear HS_
            refine hK.out _ _ (⟨blk_cellv (HS.out.at2) 4 rfl, blk_cellv (HS.out.at0) 3 rfl, blk_cellv (HS.out.at2) 2 rfl⟩) (fun hHeld => ?_)
            clear hK K
            refine done_ (by kernel_rfl) ?_
            go_wp2_with fail
            go_meet
            case rel => exact ⟨g461, g458, g468, ⟨((((((HS.out).front 5 (by simp)).front 4 (by simp)).front 5 (by simp)).front 5 (by simp)).front 5 (by simp)).front 5 (by simp)⟩⟩
        · refine slice_step (n := 2) (by rfl) (N := 62) rfl (cs := #[.int .i64 2, .int .i64 (wrap64 ((wrap64 (a15 - 8)) + 1))]) (t := 3) ?hr ?_
          case hr => first | (go_simp; done) | (go_simp; rfl)
          intro g476 hg w477 hbox hb
          replace HS : Aside0 (Sep (fps []) w [b1 g18 a14 a15 a16 a17, b2 g21 0 0 0 0 0 0 0 0, b2 g178 t175 (wrap64 (a15 - 8)) (wrap64 ((wrap64 (a15 - 8)) + 1)) t344 t371 t355 0 0, b3 g476 2 (wrap64 ((wrap64 (a15 - 8)) + 1))] w477) := ⟨HS.out.box hg hbox hb⟩
          clear hg hbox hb
          refine hK.out _ _ (⟨blk_cellv (HS.out.at2) 4 rfl, blk_cellv (HS.out.at0) 3 rfl, blk_cellv (HS.out.at2) 2 rfl⟩) (fun hHeld => ?_)
          clear hK K
          refine norm_ (a' := ?_) ?_ ?_
          rotate_left
          · show Act.put _ (some 62) _ = _
            simp only [Act.put, List.setIfInBounds_toArray, List.set_cons_zero, List.set_cons_succ, i64_w, i32_w]
            rfl
          refine one_ (i := 4) (N := some 57) #[true, true, true, true, true, false, false, true, true, true, false, false, false, false, false] rfl rfl (by kernel_rfl) (by decide) (fun K hK => ?_)
          refine goes_ Try.func108 (by kernel_rfl) rfl #[.int .i64 t371, .int .i64 a17] (by rfl) rfl rfl (by (try simp only [List.map_toArray, List.map_cons, List.map_nil]); first | done | rfl) ?_
          refine (ratio_Up.calls t371 a17 t396 _ ⟨HS.out.begin (l := []) (rest := [b1 g18 a14 a15 a16 a17, b2 g21 0 0 0 0 0 0 0 0, b2 g178 t175 (wrap64 (a15 - 8)) (wrap64 ((wrap64 (a15 - 8)) + 1)) t344 t371 t355 0 0, b3 g476 2 (wrap64 ((wrap64 (a15 - 8)) + 1))])⟩ HA397).mono ?_
          rintro e_ w480 ⟨rfl, hS⟩
          replace HS : Aside0 (Sep (fps []) w [b1 g18 a14 a15 a16 a17, b2 g21 0 0 0 0 0 0 0 0, b2 g178 t175 (wrap64 (a15 - 8)) (wrap64 ((wrap64 (a15 - 8)) + 1)) t344 t371 t355 0 0, b3 g476 2 (wrap64 ((wrap64 (a15 - 8)) + 1))] w480) := ⟨HS.out.call (l := []) (rest := [b1 g18 a14 a15 a16 a17, b2 g21 0 0 0 0 0 0 0 0, b2 g178 t175 (wrap64 (a15 - 8)) (wrap64 ((wrap64 (a15 - 8)) + 1)) t344 t371 t355 0 0, b3 g476 2 (wrap64 ((wrap64 (a15 - 8)) + 1))]) hS⟩
          clear hS
          refine ⟨_, rfl, ?_⟩
          refine hK.out _ _ (⟨blk_cellv (HS.out.at2) 4 rfl, blk_cellv (HS.out.at0) 3 rfl, blk_cellv (HS.out.at2) 2 rfl⟩) (fun hHeld => ?_)
          clear hK K
          refine norm_ (a' := ?_) ?_ ?_
          rotate_left
          · show Act.put _ (some 57) _ = _
            simp only [Act.put, List.setIfInBounds_toArray, List.set_cons_zero, List.set_cons_succ, i64_w, i32_w]
            rfl
          refine one_ (i := 5) (N := some 58) #[true, true, true, true, true, true, false, true, true, true, false, false, false, false, false] rfl rfl (by kernel_rfl) (by decide) (fun K hK => ?_)
          refine slice_step (n := 2) (by rfl) (N := 58) rfl (cs := #[.int .i64 2, .int .i64 t396]) (t := 3) ?hr ?_
          case hr => first | (go_simp; done) | (go_simp; rfl)
          intro g481 hg w482 hbox hb
          replace HS : Aside0 (Sep (fps []) w [b1 g18 a14 a15 a16 a17, b2 g21 0 0 0 0 0 0 0 0, b2 g178 t175 (wrap64 (a15 - 8)) (wrap64 ((wrap64 (a15 - 8)) + 1)) t344 t371 t355 0 0, b3 g476 2 (wrap64 ((wrap64 (a15 - 8)) + 1)), b3 g481 2 t396] w482) := ⟨HS.out.box hg hbox hb⟩
          clear hg hbox hb
          refine hK.out _ _ (⟨blk_cellv (HS.out.at2) 4 rfl, blk_cellv (HS.out.at0) 3 rfl, blk_cellv (HS.out.at2) 2 rfl⟩) (fun hHeld => ?_)
          clear hK K
          refine norm_ (a' := ?_) ?_ ?_
          rotate_left
          · show Act.put _ (some 58) _ = _
            simp only [Act.put, List.setIfInBounds_toArray, List.set_cons_zero, List.set_cons_succ, i64_w, i32_w]
            rfl
          refine one_ (i := 6) (N := some 59) #[true, true, true, true, true, true, true, true, true, true, false, false, false, false, false] rfl rfl (by kernel_rfl) (by decide) (fun K hK => ?_)
          refine goes_ Try.func107 (by kernel_rfl) rfl #[.slice (some ⟨g481, 0, none⟩) 2 2] (by rfl) rfl rfl (by (try simp only [List.map_toArray, List.map_cons, List.map_nil]); first | done | rfl) ?_
          refine (ratio_Mul.calls _ [2, t396] (some ⟨g481, 0, none⟩) 2 t402 _ ⟨Rd.lit (l := []) (rest := [b1 g18 a14 a15 a16 a17, b2 g21 0 0 0 0 0 0 0 0, b2 g178 t175 (wrap64 (a15 - 8)) (wrap64 ((wrap64 (a15 - 8)) + 1)) t344 t371 t355 0 0, b3 g476 2 (wrap64 ((wrap64 (a15 - 8)) + 1)), b3 g481 2 t396]) (xs := [2, t396]) HS.out 4 rfl (by simp)⟩ ⟨HS.out.begin (l := []) (rest := [b1 g18 a14 a15 a16 a17, b2 g21 0 0 0 0 0 0 0 0, b2 g178 t175 (wrap64 (a15 - 8)) (wrap64 ((wrap64 (a15 - 8)) + 1)) t344 t371 t355 0 0, b3 g476 2 (wrap64 ((wrap64 (a15 - 8)) + 1)), b3 g481 2 t396])⟩ HA403).mono ?_
          rintro e_ w485 ⟨rfl, hS⟩
          replace HS : Aside0 (Sep (fps []) w [b1 g18 a14 a15 a16 a17, b2 g21 0 0 0 0 0 0 0 0, b2 g178 t175 (wrap64 (a15 - 8)) (wrap64 ((wrap64 (a15 - 8)) + 1)) t344 t371 t355 0 0, b3 g476 2 (wrap64 ((wrap64 (a15 - 8)) + 1)), b3 g481 2 t396] w485) := ⟨HS.out.call (l := []) (rest := [b1 g18 a14 a15 a16 a17, b2 g21 0 0 0 0 0 0 0 0, b2 g178 t175 (wrap64 (a15 - 8)) (wrap64 ((wrap64 (a15 - 8)) + 1)) t344 t371 t355 0 0, b3 g476 2 (wrap64 ((wrap64 (a15 - 8)) + 1)), b3 g481 2 t396]) hS⟩
          clear hS
          refine ⟨_, rfl, ?_⟩
          refine hK.out _ _ (⟨blk_cellv (HS.out.at2) 4 rfl, blk_cellv (HS.out.at0) 3 rfl, blk_cellv (HS.out.at2) 2 rfl⟩) (fun hHeld => ?_)
          clear hK K
          refine norm_ (a' := ?_) ?_ ?_
          rotate_left
          · show Act.put _ (some 59) _ = _
            simp only [Act.put, List.setIfInBounds_toArray, List.set_cons_zero, List.set_cons_succ, i64_w, i32_w]
            rfl
          refine one_ (i := 10) (N := some 63) #[true, true, true, true, true, true, true, true, true, true, true, false, false, false, false] rfl rfl (by kernel_rfl) (by decide) (fun K hK => ?_)
          refine goes_ Try.func107 (by kernel_rfl) rfl #[.slice (some ⟨g476, 0, none⟩) 2 2] (by rfl) rfl rfl (by (try simp only [List.map_toArray, List.map_cons, List.map_nil]); first | done | rfl) ?_
          refine (ratio_Mul.calls _ [2, wrap64 ((wrap64 (a15 - 8)) + 1)] (some ⟨g476, 0, none⟩) 2 t408 _ ⟨Rd.lit (l := []) (rest := [b1 g18 a14 a15 a16 a17, b2 g21 0 0 0 0 0 0 0 0, b2 g178 t175 (wrap64 (a15 - 8)) (wrap64 ((wrap64 (a15 - 8)) + 1)) t344 t371 t355 0 0, b3 g476 2 (wrap64 ((wrap64 (a15 - 8)) + 1)), b3 g481 2 t396]) (xs := [2, wrap64 ((wrap64 (a15 - 8)) + 1)]) HS.out 3 rfl (by simp)⟩ ⟨HS.out.begin (l := []) (rest := [b1 g18 a14 a15 a16 a17, b2 g21 0 0 0 0 0 0 0 0, b2 g178 t175 (wrap64 (a15 - 8)) (wrap64 ((wrap64 (a15 - 8)) + 1)) t344 t371 t355 0 0, b3 g476 2 (wrap64 ((wrap64 (a15 - 8)) + 1)), b3 g481 2 t396])⟩ HA409).mono ?_
          rintro e_ w487 ⟨rfl, hS⟩
          replace HS : Aside0 (Sep (fps []) w [b1 g18 a14 a15 a16 a17, b2 g21 0 0 0 0 0 0 0 0, b2 g178 t175 (wrap64 (a15 - 8)) (wrap64 ((wrap64 (a15 - 8)) + 1)) t344 t371 t355 0 0, b3 g476 2 (wrap64 ((wrap64 (a15 - 8)) + 1)), b3 g481 2 t396] w487) := ⟨HS.out.call (l := []) (rest := [b1 g18 a14 a15 a16 a17, b2 g21 0 0 0 0 0 0 0 0, b2 g178 t175 (wrap64 (a15 - 8)) (wrap64 ((wrap64 (a15 - 8)) + 1)) t344 t371 t355 0 0, b3 g476 2 (wrap64 ((wrap64 (a15 - 8)) + 1)), b3 g481 2 t396]) hS⟩
          clear hS
          refine ⟨_, rfl, ?_⟩
          refine hK.out _ _ (⟨blk_cellv (HS.out.at2) 4 rfl, blk_cellv (HS.out.at0) 3 rfl, blk_cellv (HS.out.at2) 2 rfl⟩) (fun hHeld => ?_)
          clear hK K
          refine norm_ (a' := ?_) ?_ ?_
          rotate_left
          · show Act.put _ (some 63) _ = _
            simp only [Act.put, List.setIfInBounds_toArray, List.set_cons_zero, List.set_cons_succ, i64_w, i32_w]
            rfl
          refine one_ (i := 11) (N := some 64) #[true, true, true, true, true, true, true, true, true, true, true, true, false, false, false] rfl rfl (by kernel_rfl) (by decide) (fun K hK => ?_)
          refine slice_step (n := 2) (by rfl) (N := 64) rfl (cs := #[.int .i64 t402, .int .i64 t408]) (t := 3) ?hr ?_
          case hr => first | (go_simp; done) | (go_simp; rfl)
          intro g488 hg w489 hbox hb
          replace HS : Aside0 (Sep (fps []) w [b1 g18 a14 a15 a16 a17, b2 g21 0 0 0 0 0 0 0 0, b2 g178 t175 (wrap64 (a15 - 8)) (wrap64 ((wrap64 (a15 - 8)) + 1)) t344 t371 t355 0 0, b3 g476 2 (wrap64 ((wrap64 (a15 - 8)) + 1)), b3 g481 2 t396, b3 g488 t402 t408] w489) := ⟨HS.out.box hg hbox hb⟩
          clear hg hbox hb
          refine hK.out _ _ (⟨blk_cellv (HS.out.at2) 4 rfl, blk_cellv (HS.out.at0) 3 rfl, blk_cellv (HS.out.at2) 2 rfl⟩) (fun hHeld => ?_)
          clear hK K
          refine norm_ (a' := ?_) ?_ ?_
          rotate_left
          · show Act.put _ (some 64) _ = _
            simp only [Act.put, List.setIfInBounds_toArray, List.set_cons_zero, List.set_cons_succ, i64_w, i32_w]
            rfl
          refine one_ (i := 12) (N := some 65) #[true, true, true, true, true, true, true, true, true, true, true, true, true, false, false] rfl rfl (by kernel_rfl) (by decide) (fun K hK => ?_)
          refine goes_ Try.func106 (by kernel_rfl) rfl #[.slice (some ⟨g488, 0, none⟩) 2 2] (by rfl) rfl rfl (by (try simp only [List.map_toArray, List.map_cons, List.map_nil]); first | done | rfl) ?_
          refine (ratio_Add.calls _ [t402, t408] (some ⟨g488, 0, none⟩) 2 t414 _ ⟨Rd.lit (l := []) (rest := [b1 g18 a14 a15 a16 a17, b2 g21 0 0 0 0 0 0 0 0, b2 g178 t175 (wrap64 (a15 - 8)) (wrap64 ((wrap64 (a15 - 8)) + 1)) t344 t371 t355 0 0, b3 g476 2 (wrap64 ((wrap64 (a15 - 8)) + 1)), b3 g481 2 t396, b3 g488 t402 t408]) (xs := [t402, t408]) HS.out 5 rfl (by simp)⟩ ⟨HS.out.begin (l := []) (rest := [b1 g18 a14 a15 a16 a17, b2 g21 0 0 0 0 0 0 0 0, b2 g178 t175 (wrap64 (a15 - 8)) (wrap64 ((wrap64 (a15 - 8)) + 1)) t344 t371 t355 0 0, b3 g476 2 (wrap64 ((wrap64 (a15 - 8)) + 1)), b3 g481 2 t396, b3 g488 t402 t408])⟩ HA415).mono ?_
          rintro e_ w492 ⟨rfl, hS⟩
          replace HS : Aside0 (Sep (fps []) w [b1 g18 a14 a15 a16 a17, b2 g21 0 0 0 0 0 0 0 0, b2 g178 t175 (wrap64 (a15 - 8)) (wrap64 ((wrap64 (a15 - 8)) + 1)) t344 t371 t355 0 0, b3 g476 2 (wrap64 ((wrap64 (a15 - 8)) + 1)), b3 g481 2 t396, b3 g488 t402 t408] w492) := ⟨HS.out.call (l := []) (rest := [b1 g18 a14 a15 a16 a17, b2 g21 0 0 0 0 0 0 0 0, b2 g178 t175 (wrap64 (a15 - 8)) (wrap64 ((wrap64 (a15 - 8)) + 1)) t344 t371 t355 0 0, b3 g476 2 (wrap64 ((wrap64 (a15 - 8)) + 1)), b3 g481 2 t396, b3 g488 t402 t408]) hS⟩
          clear hS
          refine ⟨_, rfl, ?_⟩
          refine hK.out _ _ (⟨blk_cellv (HS.out.at2) 4 rfl, blk_cellv (HS.out.at0) 3 rfl, blk_cellv (HS.out.at2) 2 rfl⟩) (fun hHeld => ?_)
          clear hK K
          refine norm_ (a' := ?_) ?_ ?_
          rotate_left
          · show Act.put _ (some 65) _ = _
            simp only [Act.put, List.setIfInBounds_toArray, List.set_cons_zero, List.set_cons_succ, i64_w, i32_w]
            rfl
          refine pure_ (i := 13) (N := some 66) (v := ?_) (a' := ?_) #[true, true, true, true, true, true, true, true, true, true, true, true, true, true, false] rfl rfl (by kernel_rfl) (fun _ _ _ h => h) (Or.inl ⟨by rfl, ?_⟩) ?_ ?_
          rotate_left
          · intro w'
            go_simp
            with_reducible rfl
          rotate_left
          · simp only [Act.put, List.setIfInBounds_toArray, List.set_cons_zero, List.set_cons_succ, i64_w, i32_w]
            rfl
          refine one_ (i := 14) (N := none) #[true, true, true, true, true, true, true, true, true, true, true, true, true, true, true] rfl rfl (by kernel_rfl) (by decide) (fun K hK => ?_)
          have hc494 := blk_cellv (v := .int .i64 0) (HS.out.at2) 6 rfl
          have hz495 := blk_fz (HS.out.at2) 6
          refine store_step (w1 := (World.setCell w492 ⟨g178, 6, none⟩ (.int .i64 t414))) (by rfl) rfl ?hr ?_
          case hr => first | (go_simp; done) | (go_simp; rfl)
          clear hc494 hz495
          intro w493 hst
          have hq0 : Sep (fps []) w [b1 g18 a14 a15 a16 a17, b2 g21 0 0 0 0 0 0 0 0, b2 g178 t175 (wrap64 (a15 - 8)) (wrap64 ((wrap64 (a15 - 8)) + 1)) t344 t371 t355 t414 0, b3 g476 2 (wrap64 ((wrap64 (a15 - 8)) + 1)), b3 g481 2 t396, b3 g488 t402 t408] (World.setCell w492 ⟨g178, 6, none⟩ (.int .i64 t414)) := (HS.out).set1 (l1 := [b1 g18 a14 a15 a16 a17, b2 g21 0 0 0 0 0 0 0 0]) (l2 := [b3 g476 2 (wrap64 ((wrap64 (a15 - 8)) + 1)), b3 g481 2 t396, b3 g488 t402 t408]) 6 (.int .i64 t414)
          have HS_ : Aside0 (Sep (fps []) w [b1 g18 a14 a15 a16 a17, b2 g21 0 0 0 0 0 0 0 0, b2 g178 t175 (wrap64 (a15 - 8)) (wrap64 ((wrap64 (a15 - 8)) + 1)) t344 t371 t355 t414 0, b3 g476 2 (wrap64 ((wrap64 (a15 - 8)) + 1)), b3 g481 2 t396, b3 g488 t402 t408] w493) := ⟨by rw [hst]; exact hq0⟩
          clear hq0
          clear HS hst
          have HS := HS_
          clear HS_
          refine hK.out _ _ (⟨blk_cellv (HS.out.at2) 4 rfl, blk_cellv (HS.out.at0) 3 rfl, blk_cellv (HS.out.at2) 2 rfl⟩) (fun hHeld => ?_)
          clear hK K
          refine done_ (by kernel_rfl) ?_
          go_wp2_with fail
          go_meet
          case rel => exact ⟨g481, g476, g488, ⟨((((((HS.out).front 5 (by simp)).front 4 (by simp)).front 5 (by simp)).front 5 (by simp)).front 5 (by simp)).front 5 (by simp)⟩⟩
      case rest =>
        clear HS
        obtain ⟨g399, g405, g411, HS⟩ := hcut
        obtain ⟨w420, rfl⟩ : ∃ x : World, x = wc := ⟨_, rfl⟩
        replace HS : Aside0 (Sep (fps []) w [b1 g18 a14 a15 a16 a17, b2 g21 0 0 0 0 0 0 0 0, b2 g178 t175 (wrap64 (a15 - 8)) (wrap64 ((wrap64 (a15 - 8)) + 1)) t344 t371 t355 t414 0] w420) := ⟨HS.out.sub (.cons_cons _ (.cons_cons _ (.cons_cons _ (.cons _ (.cons _ (.cons _ .slnil))))))⟩
        go_wp2_with fail
        refine start_ (n := 15) (S := (fun w' => w'.cell? ⟨g178, 4, none⟩ = some (.int .i64 t371) ∧ w'.cell? ⟨g178, 5, none⟩ = some (.int .i64 t355) ∧ w'.cell? ⟨g18, 3, none⟩ = some (.int .i64 a17))) (ds := []) #[false, false, false, false, false, false, false, false, false, false, false, false, false, false, false] (by kernel_rfl) rfl rfl (⟨blk_cellv ((HS.out.drew).at2) 4 rfl, blk_cellv ((HS.out.drew).at2) 5 rfl, blk_cellv ((HS.out.drew).at0) 3 rfl⟩) (fun hHeld => ?_)
        have HS_ := Aside0.mk HS.out.drew
        clear HS
        generalize World.drew _ = w497 at HS_ hHeld ⊢
        have HS := HS_
        clear HS_
        refine pure_ (i := 0) (N := some 67) (v := ?_) (a' := ?_) #[true, false, false, false, false, false, false, false, false, false, false, false, false, false, false] rfl rfl (by kernel_rfl) (fun _ _ _ h => h) (Or.inl ⟨by rfl, ?_⟩) ?_ ?_
        rotate_left
        · intro w'
          go_simp
          with_reducible rfl
        rotate_left
        · simp only [Act.put, List.setIfInBounds_toArray, List.set_cons_zero, List.set_cons_succ, i64_w, i32_w]
          rfl
        refine pure_ (i := 2) (N := some 69) (v := ?_) (a' := ?_) #[true, false, true, false, false, false, false, false, false, false, false, false, false, false, false] rfl rfl (by kernel_rfl) (fun _ _ _ h => h) (Or.inl ⟨by rfl, ?_⟩) ?_ ?_
        rotate_left
        · intro w'
          go_simp
          with_reducible rfl
        rotate_left
        · simp only [Act.put, List.setIfInBounds_toArray, List.set_cons_zero, List.set_cons_succ, i64_w, i32_w]
          rfl
        refine pure_ (i := 4) (N := some 71) (v := ?_) (a' := ?_) #[true, false, true, false, true, false, false, false, false, false, false, false, false, false, false] rfl rfl (by kernel_rfl) (fun _ _ _ h => h) (Or.inl ⟨by rfl, ?_⟩) ?_ ?_
        rotate_left
        · intro w'
          go_simp
          with_reducible rfl
        rotate_left
        · simp only [Act.put, List.setIfInBounds_toArray, List.set_cons_zero, List.set_cons_succ, i64_w, i32_w]
          rfl
        refine pure_ (i := 8) (N := some 75) (v := ?_) (a' := ?_) #[true, false, true, false, true, false, false, false, true, false, false, false, false, false, false] rfl rfl (by kernel_rfl) (fun _ _ _ h => h) (Or.inl ⟨by rfl, ?_⟩) ?_ ?_
        rotate_left
        · intro w'
          go_simp
          with_reducible rfl
        rotate_left
        · simp only [Act.put, List.setIfInBounds_toArray, List.set_cons_zero, List.set_cons_succ, i64_w, i32_w]
          rfl
        refine take_ (i := 1) (N := some 68) (v := ?_) (a' := ?_) #[true, true, true, false, true, false, false, false, true, false, false, false, false, false, false] rfl rfl (by kernel_rfl) (fun _ _ _ h => h) (Or.inl ⟨by rfl, ?_⟩) hHeld ?_ ?_
        rotate_left
        · rintro w' hS'
          obtain ⟨s0, s1, s2⟩ := hS'
          go_simp
          with_reducible rfl
        rotate_left
        · simp only [Act.put, List.setIfInBounds_toArray, List.set_cons_zero, List.set_cons_succ, i64_w, i32_w]
          rfl
        refine take_ (i := 3) (N := some 70) (v := ?_) (a' := ?_) #[true, true, true, true, true, false, false, false, true, false, false, false, false, false, false] rfl rfl (by kernel_rfl) (fun _ _ _ h => h) (Or.inl ⟨by rfl, ?_⟩) hHeld ?_ ?_
        rotate_left
        · rintro w' hS'
          obtain ⟨s0, s1, s2⟩ := hS'
          go_simp
          with_reducible rfl
        rotate_left
        · simp only [Act.put, List.setIfInBounds_toArray, List.set_cons_zero, List.set_cons_succ, i64_w, i32_w]
          rfl
        refine take_ (i := 5) (N := some 72) (v := ?_) (a' := ?_) #[true, true, true, true, true, true, false, false, true, false, false, false, false, false, false] rfl rfl (by kernel_rfl) (fun _ _ _ h => h) (Or.inl ⟨by rfl, ?_⟩) hHeld ?_ ?_
        rotate_left
        · rintro w' hS'
          obtain ⟨s0, s1, s2⟩ := hS'
          go_simp
          with_reducible rfl
        rotate_left
        · simp only [Act.put, List.setIfInBounds_toArray, List.set_cons_zero, List.set_cons_succ, i64_w, i32_w]
          rfl
        refine take_ (i := 9) (N := some 76) (v := ?_) (a' := ?_) #[true, true, true, true, true, true, false, false, true, true, false, false, false, false, false] rfl rfl (by kernel_rfl) (fun _ _ _ h => h) (Or.inl ⟨by rfl, ?_⟩) hHeld ?_ ?_
        rotate_left
        · rintro w' hS'
          obtain ⟨s0, s1, s2⟩ := hS'
          go_simp
          with_reducible rfl
        rotate_left
        · simp only [Act.put, List.setIfInBounds_toArray, List.set_cons_zero, List.set_cons_succ, i64_w, i32_w]
          rfl
        refine one_ (i := 6) (N := some 73) #[true, true, true, true, true, true, true, false, true, true, false, false, false, false, false] rfl rfl (by kernel_rfl) (by decide) (fun K hK => ?_)
        refine slice_step (n := 3) (by rfl) (N := 73) rfl (cs := #[.int .i64 t371, .int .i64 t371, .int .i64 t355]) (t := 3) ?hr ?_
        case hr => first | (go_simp; done) | (go_simp; rfl)
        intro g498 hg w499 hbox hb
        replace HS : Aside0 (Sep (fps []) w [b1 g18 a14 a15 a16 a17, b2 g21 0 0 0 0 0 0 0 0, b2 g178 t175 (wrap64 (a15 - 8)) (wrap64 ((wrap64 (a15 - 8)) + 1)) t344 t371 t355 t414 0, b4 g498 t371 t371 t355] w499) := ⟨HS.out.box hg hbox hb⟩
        clear hg hbox hb
        refine hK.out _ _ (⟨blk_cellv (HS.out.at2) 4 rfl, blk_cellv (HS.out.at2) 5 rfl, blk_cellv (HS.out.at0) 3 rfl⟩) (fun hHeld => ?_)
        clear hK K
        refine norm_ (a' := ?_) ?_ ?_
        rotate_left
        · show Act.put _ (some 73) _ = _
          simp only [Act.put, List.setIfInBounds_toArray, List.set_cons_zero, List.set_cons_succ, i64_w, i32_w]
          rfl
        refine one_ (i := 7) (N := some 74) #[true, true, true, true, true, true, true, true, true, true, false, false, false, false, false] rfl rfl (by kernel_rfl) (by decide) (fun K hK => ?_)
        obtain ⟨t501, HA502, H⟩ := bind_some H
        refine goes_ Try.func106 (by kernel_rfl) rfl #[.slice (some ⟨g498, 0, none⟩) 3 3] (by rfl) rfl rfl (by (try simp only [List.map_toArray, List.map_cons, List.map_nil]); first | done | rfl) ?_
        refine (ratio_Add.calls _ [t371, t371, t355] (some ⟨g498, 0, none⟩) 3 t501 _ ⟨Rd.lit (l := []) (rest := [b1 g18 a14 a15 a16 a17, b2 g21 0 0 0 0 0 0 0 0, b2 g178 t175 (wrap64 (a15 - 8)) (wrap64 ((wrap64 (a15 - 8)) + 1)) t344 t371 t355 t414 0, b4 g498 t371 t371 t355]) (xs := [t371, t371, t355]) HS.out 3 rfl (by simp)⟩ ⟨HS.out.begin (l := []) (rest := [b1 g18 a14 a15 a16 a17, b2 g21 0 0 0 0 0 0 0 0, b2 g178 t175 (wrap64 (a15 - 8)) (wrap64 ((wrap64 (a15 - 8)) + 1)) t344 t371 t355 t414 0, b4 g498 t371 t371 t355])⟩ HA502).mono ?_
        rintro e_ w503 ⟨rfl, hS⟩
        replace HS : Aside0 (Sep (fps []) w [b1 g18 a14 a15 a16 a17, b2 g21 0 0 0 0 0 0 0 0, b2 g178 t175 (wrap64 (a15 - 8)) (wrap64 ((wrap64 (a15 - 8)) + 1)) t344 t371 t355 t414 0, b4 g498 t371 t371 t355] w503) := ⟨HS.out.call (l := []) (rest := [b1 g18 a14 a15 a16 a17, b2 g21 0 0 0 0 0 0 0 0, b2 g178 t175 (wrap64 (a15 - 8)) (wrap64 ((wrap64 (a15 - 8)) + 1)) t344 t371 t355 t414 0, b4 g498 t371 t371 t355]) hS⟩
        clear hS
        refine ⟨_, rfl, ?_⟩
        refine hK.out _ _ (⟨blk_cellv (HS.out.at2) 4 rfl, blk_cellv (HS.out.at2) 5 rfl, blk_cellv (HS.out.at0) 3 rfl⟩) (fun hHeld => ?_)
        clear hK K
        refine norm_ (a' := ?_) ?_ ?_
        rotate_left
        · show Act.put _ (some 74) _ = _
          simp only [Act.put, List.setIfInBounds_toArray, List.set_cons_zero, List.set_cons_succ, i64_w, i32_w]
          rfl
        refine one_ (i := 10) (N := some 77) #[true, true, true, true, true, true, true, true, true, true, true, false, false, false, false] rfl rfl (by kernel_rfl) (by decide) (fun K hK => ?_)
        obtain ⟨t504, HA505, H⟩ := bind_some H
        refine goes_ Try.func108 (by kernel_rfl) rfl #[.int .i64 t501, .int .i64 a17] (by rfl) rfl rfl (by (try simp only [List.map_toArray, List.map_cons, List.map_nil]); first | done | rfl) ?_
        refine (ratio_Up.calls t501 a17 t504 _ ⟨HS.out.begin (l := []) (rest := [b1 g18 a14 a15 a16 a17, b2 g21 0 0 0 0 0 0 0 0, b2 g178 t175 (wrap64 (a15 - 8)) (wrap64 ((wrap64 (a15 - 8)) + 1)) t344 t371 t355 t414 0, b4 g498 t371 t371 t355])⟩ HA505).mono ?_
        rintro e_ w506 ⟨rfl, hS⟩
        replace HS : Aside0 (Sep (fps []) w [b1 g18 a14 a15 a16 a17, b2 g21 0 0 0 0 0 0 0 0, b2 g178 t175 (wrap64 (a15 - 8)) (wrap64 ((wrap64 (a15 - 8)) + 1)) t344 t371 t355 t414 0, b4 g498 t371 t371 t355] w506) := ⟨HS.out.call (l := []) (rest := [b1 g18 a14 a15 a16 a17, b2 g21 0 0 0 0 0 0 0 0, b2 g178 t175 (wrap64 (a15 - 8)) (wrap64 ((wrap64 (a15 - 8)) + 1)) t344 t371 t355 t414 0, b4 g498 t371 t371 t355]) hS⟩
        clear hS
        refine ⟨_, rfl, ?_⟩
        refine hK.out _ _ (⟨blk_cellv (HS.out.at2) 4 rfl, blk_cellv (HS.out.at2) 5 rfl, blk_cellv (HS.out.at0) 3 rfl⟩) (fun hHeld => ?_)
        clear hK K
        refine norm_ (a' := ?_) ?_ ?_
        rotate_left
        · show Act.put _ (some 77) _ = _
          simp only [Act.put, List.setIfInBounds_toArray, List.set_cons_zero, List.set_cons_succ, i64_w, i32_w]
          rfl
        refine one_ (i := 11) (N := some 78) #[true, true, true, true, true, true, true, true, true, true, true, true, false, false, false] rfl rfl (by kernel_rfl) (by decide) (fun K hK => ?_)
        refine slice_step (n := 2) (by rfl) (N := 78) rfl (cs := #[.int .i64 t504, .int .i64 2]) (t := 3) ?hr ?_
        case hr => first | (go_simp; done) | (go_simp; rfl)
        intro g507 hg w508 hbox hb
        replace HS : Aside0 (Sep (fps []) w [b1 g18 a14 a15 a16 a17, b2 g21 0 0 0 0 0 0 0 0, b2 g178 t175 (wrap64 (a15 - 8)) (wrap64 ((wrap64 (a15 - 8)) + 1)) t344 t371 t355 t414 0, b4 g498 t371 t371 t355, b3 g507 t504 2] w508) := ⟨HS.out.box hg hbox hb⟩
        clear hg hbox hb
        refine hK.out _ _ (⟨blk_cellv (HS.out.at2) 4 rfl, blk_cellv (HS.out.at2) 5 rfl, blk_cellv (HS.out.at0) 3 rfl⟩) (fun hHeld => ?_)
        clear hK K
        refine norm_ (a' := ?_) ?_ ?_
        rotate_left
        · show Act.put _ (some 78) _ = _
          simp only [Act.put, List.setIfInBounds_toArray, List.set_cons_zero, List.set_cons_succ, i64_w, i32_w]
          rfl
        refine one_ (i := 12) (N := some 79) #[true, true, true, true, true, true, true, true, true, true, true, true, true, false, false] rfl rfl (by kernel_rfl) (by decide) (fun K hK => ?_)
        obtain ⟨t510, HA511, H⟩ := bind_some H
        refine goes_ Try.func106 (by kernel_rfl) rfl #[.slice (some ⟨g507, 0, none⟩) 2 2] (by rfl) rfl rfl (by (try simp only [List.map_toArray, List.map_cons, List.map_nil]); first | done | rfl) ?_
        refine (ratio_Add.calls _ [t504, 2] (some ⟨g507, 0, none⟩) 2 t510 _ ⟨Rd.lit (l := []) (rest := [b1 g18 a14 a15 a16 a17, b2 g21 0 0 0 0 0 0 0 0, b2 g178 t175 (wrap64 (a15 - 8)) (wrap64 ((wrap64 (a15 - 8)) + 1)) t344 t371 t355 t414 0, b4 g498 t371 t371 t355, b3 g507 t504 2]) (xs := [t504, 2]) HS.out 4 rfl (by simp)⟩ ⟨HS.out.begin (l := []) (rest := [b1 g18 a14 a15 a16 a17, b2 g21 0 0 0 0 0 0 0 0, b2 g178 t175 (wrap64 (a15 - 8)) (wrap64 ((wrap64 (a15 - 8)) + 1)) t344 t371 t355 t414 0, b4 g498 t371 t371 t355, b3 g507 t504 2])⟩ HA511).mono ?_
        rintro e_ w512 ⟨rfl, hS⟩
        replace HS : Aside0 (Sep (fps []) w [b1 g18 a14 a15 a16 a17, b2 g21 0 0 0 0 0 0 0 0, b2 g178 t175 (wrap64 (a15 - 8)) (wrap64 ((wrap64 (a15 - 8)) + 1)) t344 t371 t355 t414 0, b4 g498 t371 t371 t355, b3 g507 t504 2] w512) := ⟨HS.out.call (l := []) (rest := [b1 g18 a14 a15 a16 a17, b2 g21 0 0 0 0 0 0 0 0, b2 g178 t175 (wrap64 (a15 - 8)) (wrap64 ((wrap64 (a15 - 8)) + 1)) t344 t371 t355 t414 0, b4 g498 t371 t371 t355, b3 g507 t504 2]) hS⟩
        clear hS
        refine ⟨_, rfl, ?_⟩
        refine hK.out _ _ (⟨blk_cellv (HS.out.at2) 4 rfl, blk_cellv (HS.out.at2) 5 rfl, blk_cellv (HS.out.at0) 3 rfl⟩) (fun hHeld => ?_)
        clear hK K
        refine norm_ (a' := ?_) ?_ ?_
        rotate_left
        · show Act.put _ (some 79) _ = _
          simp only [Act.put, List.setIfInBounds_toArray, List.set_cons_zero, List.set_cons_succ, i64_w, i32_w]
          rfl
        refine pure_ (i := 13) (N := some 80) (v := ?_) (a' := ?_) #[true, true, true, true, true, true, true, true, true, true, true, true, true, true, false] rfl rfl (by kernel_rfl) (fun _ _ _ h => h) (Or.inl ⟨by rfl, ?_⟩) ?_ ?_
        rotate_left
        · intro w'
          go_simp
          with_reducible rfl
        rotate_left
        · simp only [Act.put, List.setIfInBounds_toArray, List.set_cons_zero, List.set_cons_succ, i64_w, i32_w]
          rfl
        refine one_ (i := 14) (N := none) #[true, true, true, true, true, true, true, true, true, true, true, true, true, true, true] rfl rfl (by kernel_rfl) (by decide) (fun K hK => ?_)
        have hc514 := blk_cellv (v := .int .i64 0) (HS.out.at2) 7 rfl
        have hz515 := blk_fz (HS.out.at2) 7
        refine store_step (w1 := (World.setCell w512 ⟨g178, 7, none⟩ (.int .i64 t510))) (by rfl) rfl ?hr ?_
        case hr => first | (go_simp; done) | (go_simp; rfl)
        clear hc514 hz515
        intro w513 hst
        have hq0 : Sep (fps []) w [b1 g18 a14 a15 a16 a17, b2 g21 0 0 0 0 0 0 0 0, b2 g178 t175 (wrap64 (a15 - 8)) (wrap64 ((wrap64 (a15 - 8)) + 1)) t344 t371 t355 t414 t510, b4 g498 t371 t371 t355, b3 g507 t504 2] (World.setCell w512 ⟨g178, 7, none⟩ (.int .i64 t510)) := (HS.out).set1 (l1 := [b1 g18 a14 a15 a16 a17, b2 g21 0 0 0 0 0 0 0 0]) (l2 := [b4 g498 t371 t371 t355, b3 g507 t504 2]) 7 (.int .i64 t510)
        have HS_ : Aside0 (Sep (fps []) w [b1 g18 a14 a15 a16 a17, b2 g21 0 0 0 0 0 0 0 0, b2 g178 t175 (wrap64 (a15 - 8)) (wrap64 ((wrap64 (a15 - 8)) + 1)) t344 t371 t355 t414 t510, b4 g498 t371 t371 t355, b3 g507 t504 2] w513) := ⟨by rw [hst]; exact hq0⟩
        clear hq0
        clear HS hst
        have HS := HS_
        clear HS_
        refine hK.out _ _ (⟨blk_cellv (HS.out.at2) 4 rfl, blk_cellv (HS.out.at2) 5 rfl, blk_cellv (HS.out.at0) 3 rfl⟩) (fun hHeld => ?_)
        clear hK K
        refine done_ (by kernel_rfl) ?_
        replace HS : Aside0 (Sep (fps []) w [b2 g21 0 0 0 0 0 0 0 0, b2 g178 t175 (wrap64 (a15 - 8)) (wrap64 ((wrap64 (a15 - 8)) + 1)) t344 t371 t355 t414 t510] w513) := ⟨HS.out.sub (.cons _ (.cons_cons _ (.cons_cons _ (.cons _ (.cons _ .slnil)))))⟩
        have hc516 : w513.cell? ⟨g178, 0, none⟩ = some (.int .i64 t175) := blk_cellv (HS.out.at1) 0 rfl
        have hc517 : w513.cell? ⟨g178, 1, none⟩ = some (.int .i64 (wrap64 (a15 - 8))) := blk_cellv (HS.out.at1) 1 rfl
        have hc518 : w513.cell? ⟨g178, 2, none⟩ = some (.int .i64 (wrap64 ((wrap64 (a15 - 8)) + 1))) := blk_cellv (HS.out.at1) 2 rfl
        have hc519 : w513.cell? ⟨g178, 3, none⟩ = some (.int .i64 t344) := blk_cellv (HS.out.at1) 3 rfl
        have hc520 : w513.cell? ⟨g178, 4, none⟩ = some (.int .i64 t371) := blk_cellv (HS.out.at1) 4 rfl
        have hc521 : w513.cell? ⟨g178, 5, none⟩ = some (.int .i64 t355) := blk_cellv (HS.out.at1) 5 rfl
        have hc522 : w513.cell? ⟨g178, 6, none⟩ = some (.int .i64 t414) := blk_cellv (HS.out.at1) 6 rfl
        have hc523 : w513.cell? ⟨g178, 7, none⟩ = some (.int .i64 t510) := blk_cellv (HS.out.at1) 7 rfl
        have hc524 : w513.cell? ⟨g21, 0, none⟩ = some (.int .i64 0) := blk_cellv (HS.out.at0) 0 rfl
        have hz525 : w513.frozen? ⟨g21, 0, none⟩ = false := blk_fz (HS.out.at0) 0
        have hc526 : w513.cell? ⟨g21, 1, none⟩ = some (.int .i64 0) := blk_cellv (HS.out.at0) 1 rfl
        have hz527 : w513.frozen? ⟨g21, 1, none⟩ = false := blk_fz (HS.out.at0) 1
        have hc528 : w513.cell? ⟨g21, 2, none⟩ = some (.int .i64 0) := blk_cellv (HS.out.at0) 2 rfl
        have hz529 : w513.frozen? ⟨g21, 2, none⟩ = false := blk_fz (HS.out.at0) 2
        have hc530 : w513.cell? ⟨g21, 3, none⟩ = some (.int .i64 0) := blk_cellv (HS.out.at0) 3 rfl
        have hz531 : w513.frozen? ⟨g21, 3, none⟩ = false := blk_fz (HS.out.at0) 3
        have hc532 : w513.cell? ⟨g21, 4, none⟩ = some (.int .i64 0) := blk_cellv (HS.out.at0) 4 rfl
        have hz533 : w513.frozen? ⟨g21, 4, none⟩ = false := blk_fz (HS.out.at0) 4
        have hc534 : w513.cell? ⟨g21, 5, none⟩ = some (.int .i64 0) := blk_cellv (HS.out.at0) 5 rfl
        have hz535 : w513.frozen? ⟨g21, 5, none⟩ = false := blk_fz (HS.out.at0) 5
        have hc536 : w513.cell? ⟨g21, 6, none⟩ = some (.int .i64 0) := blk_cellv (HS.out.at0) 6 rfl
        have hz537 : w513.frozen? ⟨g21, 6, none⟩ = false := blk_fz (HS.out.at0) 6
        have hc538 : w513.cell? ⟨g21, 7, none⟩ = some (.int .i64 0) := blk_cellv (HS.out.at0) 7 rfl
        have hz539 : w513.frozen? ⟨g21, 7, none⟩ = false := blk_fz (HS.out.at0) 7
        go_wp2_with (first | ((with_reducible refine gate_store (t := 120) (p := 2) rfl ?_); refine store_event (w1 := (World.setCell (World.setCell (World.setCell (World.setCell (World.setCell (World.setCell (World.setCell (World.setCell w513 ⟨g21, 0, none⟩ (.int .i64 t175)) ⟨g21, 1, none⟩ (.int .i64 (wrap64 (a15 - 8)))) ⟨g21, 2, none⟩ (.int .i64 (wrap64 ((wrap64 (a15 - 8)) + 1)))) ⟨g21, 3, none⟩ (.int .i64 t344)) ⟨g21, 4, none⟩ (.int .i64 t371)) ⟨g21, 5, none⟩ (.int .i64 t355)) ⟨g21, 6, none⟩ (.int .i64 t414)) ⟨g21, 7, none⟩ (.int .i64 t510))) rfl (t := 120) (p := 2) rfl rfl ?hr ?_; (case hr => first | (go_simp; done) | (go_simp; rfl)); intro w540 hst; clear hc516 hc517 hc518 hc519 hc520 hc521 hc522 hc523 hc524 hz525 hc526 hz527 hc528 hz529 hc530 hz531 hc532 hz533 hc534 hz535 hc536 hz537 hc538 hz539; replace HS : Aside0 (Sep (fps []) w [b2 g21 t175 (wrap64 (a15 - 8)) (wrap64 ((wrap64 (a15 - 8)) + 1)) t344 t371 t355 t414 t510, b2 g178 t175 (wrap64 (a15 - 8)) (wrap64 ((wrap64 (a15 - 8)) + 1)) t344 t371 t355 t414 t510] w540) := ⟨by rw [hst]; exact HS.out.setAll (l1 := []) (l2 := [b2 g178 t175 (wrap64 (a15 - 8)) (wrap64 ((wrap64 (a15 - 8)) + 1)) t344 t371 t355 t414 t510]) [.int .i64 t175, .int .i64 (wrap64 (a15 - 8)), .int .i64 (wrap64 ((wrap64 (a15 - 8)) + 1)), .int .i64 t344, .int .i64 t371, .int .i64 t355, .int .i64 t414, .int .i64 t510] rfl⟩; clear hst; replace HS : Aside0 (Sep (fps []) w [b2 g21 t175 (wrap64 (a15 - 8)) (wrap64 ((wrap64 (a15 - 8)) + 1)) t344 t371 t355 t414 t510] w540) := ⟨HS.out.sub (.cons_cons _ (.cons _ .slnil))⟩))
        have hc541 : w540.cell? ⟨g21, 0, none⟩ = some (.int .i64 t175) := blk_cellv (HS.out.at0) 0 rfl
        have hc542 : w540.cell? ⟨g21, 1, none⟩ = some (.int .i64 (wrap64 (a15 - 8))) := blk_cellv (HS.out.at0) 1 rfl
        have hc543 : w540.cell? ⟨g21, 2, none⟩ = some (.int .i64 (wrap64 ((wrap64 (a15 - 8)) + 1))) := blk_cellv (HS.out.at0) 2 rfl
        have hc544 : w540.cell? ⟨g21, 3, none⟩ = some (.int .i64 t344) := blk_cellv (HS.out.at0) 3 rfl
        have hc545 : w540.cell? ⟨g21, 4, none⟩ = some (.int .i64 t371) := blk_cellv (HS.out.at0) 4 rfl
        have hc546 : w540.cell? ⟨g21, 5, none⟩ = some (.int .i64 t355) := blk_cellv (HS.out.at0) 5 rfl
        have hc547 : w540.cell? ⟨g21, 6, none⟩ = some (.int .i64 t414) := blk_cellv (HS.out.at0) 6 rfl
        have hc548 : w540.cell? ⟨g21, 7, none⟩ = some (.int .i64 t510) := blk_cellv (HS.out.at0) 7 rfl
        refine bodyPost_ret (v := .tuple #[.agg #[.int .i64 t175, .int .i64 (wrap64 (a15 - 8)), .int .i64 (wrap64 ((wrap64 (a15 - 8)) + 1)), .int .i64 t344, .int .i64 t371, .int .i64 t355, .int .i64 t414, .int .i64 t510], .int .i64 0]) (by simp [results, Try.results76, go_sem, hc541, hc542, hc543, hc544, hc545, hc546, hc547, hc548]) rfl ?_
        rw [← some_eq H]
        exact ⟨(by first | rfl | (simp [IntKind.wrap_u32]; done)), (HS.out).keep (l := []) (rest := [b2 g21 t175 (wrap64 (a15 - 8)) (wrap64 ((wrap64 (a15 - 8)) + 1)) t344 t371 t355 t414 t510])⟩
  · have H := if_no c72 H
    have c72b0 : (t69 == 0) = false := beq_eq_false_iff_ne.mpr c72
    have c72b1 : (t69 != 0) = true := bne_iff_ne.mpr c72
    clear c72
    have hc549 : w71.cell? ⟨g21, 0, none⟩ = some (.int .i64 0) := blk_cellv (HS.out.at1) 0 rfl
    have hz550 : w71.frozen? ⟨g21, 0, none⟩ = false := blk_fz (HS.out.at1) 0
    have hc551 : w71.cell? ⟨g21, 1, none⟩ = some (.int .i64 0) := blk_cellv (HS.out.at1) 1 rfl
    have hz552 : w71.frozen? ⟨g21, 1, none⟩ = false := blk_fz (HS.out.at1) 1
    have hc553 : w71.cell? ⟨g21, 2, none⟩ = some (.int .i64 0) := blk_cellv (HS.out.at1) 2 rfl
    have hz554 : w71.frozen? ⟨g21, 2, none⟩ = false := blk_fz (HS.out.at1) 2
    have hc555 : w71.cell? ⟨g21, 3, none⟩ = some (.int .i64 0) := blk_cellv (HS.out.at1) 3 rfl
    have hz556 : w71.frozen? ⟨g21, 3, none⟩ = false := blk_fz (HS.out.at1) 3
    have hc557 : w71.cell? ⟨g21, 4, none⟩ = some (.int .i64 0) := blk_cellv (HS.out.at1) 4 rfl
    have hz558 : w71.frozen? ⟨g21, 4, none⟩ = false := blk_fz (HS.out.at1) 4
    have hc559 : w71.cell? ⟨g21, 5, none⟩ = some (.int .i64 0) := blk_cellv (HS.out.at1) 5 rfl
    have hz560 : w71.frozen? ⟨g21, 5, none⟩ = false := blk_fz (HS.out.at1) 5
    have hc561 : w71.cell? ⟨g21, 6, none⟩ = some (.int .i64 0) := blk_cellv (HS.out.at1) 6 rfl
    have hz562 : w71.frozen? ⟨g21, 6, none⟩ = false := blk_fz (HS.out.at1) 6
    have hc563 : w71.cell? ⟨g21, 7, none⟩ = some (.int .i64 0) := blk_cellv (HS.out.at1) 7 rfl
    have hz564 : w71.frozen? ⟨g21, 7, none⟩ = false := blk_fz (HS.out.at1) 7
    go_wp2_with (first | ((with_reducible refine gate_store (t := 120) (p := 2) rfl ?_); refine store_event (w1 := (World.setCell (World.setCell (World.setCell (World.setCell (World.setCell (World.setCell (World.setCell (World.setCell w71 ⟨g21, 0, none⟩ (.int .i64 0)) ⟨g21, 1, none⟩ (.int .i64 0)) ⟨g21, 2, none⟩ (.int .i64 0)) ⟨g21, 3, none⟩ (.int .i64 0)) ⟨g21, 4, none⟩ (.int .i64 0)) ⟨g21, 5, none⟩ (.int .i64 0)) ⟨g21, 6, none⟩ (.int .i64 0)) ⟨g21, 7, none⟩ (.int .i64 0))) rfl (t := 120) (p := 2) rfl rfl ?hr ?_; (case hr => first | (go_simp; done) | (go_simp; rfl)); intro w565 hst; clear hc549 hz550 hc551 hz552 hc553 hz554 hc555 hz556 hc557 hz558 hc559 hz560 hc561 hz562 hc563 hz564; replace HS : Aside0 (Sep (fps []) w [b1 g18 a14 a15 a16 a17, b2 g21 0 0 0 0 0 0 0 0] w565) := ⟨by rw [hst]; exact HS.out.setAll (l1 := [b1 g18 a14 a15 a16 a17]) (l2 := []) [.int .i64 0, .int .i64 0, .int .i64 0, .int .i64 0, .int .i64 0, .int .i64 0, .int .i64 0, .int .i64 0] rfl⟩; clear hst; replace HS : Aside0 (Sep (fps []) w [b2 g21 0 0 0 0 0 0 0 0] w565) := ⟨HS.out.sub (.cons _ (.cons_cons _ .slnil))⟩))
    have hc566 : w565.cell? ⟨g21, 0, none⟩ = some (.int .i64 0) := blk_cellv (HS.out.at0) 0 rfl
    have hc567 : w565.cell? ⟨g21, 1, none⟩ = some (.int .i64 0) := blk_cellv (HS.out.at0) 1 rfl
    have hc568 : w565.cell? ⟨g21, 2, none⟩ = some (.int .i64 0) := blk_cellv (HS.out.at0) 2 rfl
    have hc569 : w565.cell? ⟨g21, 3, none⟩ = some (.int .i64 0) := blk_cellv (HS.out.at0) 3 rfl
    have hc570 : w565.cell? ⟨g21, 4, none⟩ = some (.int .i64 0) := blk_cellv (HS.out.at0) 4 rfl
    have hc571 : w565.cell? ⟨g21, 5, none⟩ = some (.int .i64 0) := blk_cellv (HS.out.at0) 5 rfl
    have hc572 : w565.cell? ⟨g21, 6, none⟩ = some (.int .i64 0) := blk_cellv (HS.out.at0) 6 rfl
    have hc573 : w565.cell? ⟨g21, 7, none⟩ = some (.int .i64 0) := blk_cellv (HS.out.at0) 7 rfl
    refine bodyPost_ret (v := .tuple #[.agg #[.int .i64 0, .int .i64 0, .int .i64 0, .int .i64 0, .int .i64 0, .int .i64 0, .int .i64 0, .int .i64 0], .int .i64 t69]) (by simp [results, Try.results76, go_sem, hc566, hc567, hc568, hc569, hc570, hc571, hc572, hc573]) rfl ?_
    rw [← some_eq H]
    exact ⟨(by first | rfl | (simp [IntKind.wrap_u32]; done)), (HS.out).keep (l := []) (rest := [b2 g21 0 0 0 0 0 0 0 0])⟩

set_option maxHeartbeats 30000000 in
set_option maxRecDepth 100000 in
theorem store_New.calls (a599 : Int) (r : Unit ⊕ (List Int)) (w : World)   (HS : Aside0 (Sep (fps []) w [] w)) (H : Aside0 (store_New.f a599 = some r)) :
    Calls Try.prog 17 #[.int .i64 a599] w fun e w' => Sum.elim (fun (r : Unit) => e = .returned (.tuple #[.pointer none, .int .i64 2]) ∧ Sep (fps []) w [] w') (fun (r : List Int) => ∃ (g628 : Nat) (A629 : Option Addr) (m630 : Nat) (n631 : Nat), e = .returned (.tuple #[.pointer (some ⟨g628, 0, none⟩), .int .i64 0]) ∧ Sep (fps []) w [b6 g628 A629 m630 n631 0, r5 A629 m630 n631 r] w') r := by
  unfold store_New.f at H
  go_enter Try.func17, Try.ntmps17
  by_cases c613 : a599 < 0
  · have H := if_yes c613 H
    have c613b0 : decide (a599 < 0) = true := decide_eq_true c613
    clear c613
    go_wp2_with fail
    go_ret2
    rw [← some_eq H]
    exact ⟨(by first | rfl | (simp [IntKind.wrap_u32]; done)), (HS.out).keep (l := []) (rest := [])⟩
  · have H := if_no c613 H
    have c613b0 : decide (a599 < 0) = false := decide_eq_false c613
    clear c613
    by_cases c614 : a599 > 8388608
    · have H := if_yes c614 H
      have c614b0 : decide (8388608 < a599) = true := decide_eq_true c614
      clear c614
      go_wp2_with fail
      go_ret2
      rw [← some_eq H]
      exact ⟨(by first | rfl | (simp [IntKind.wrap_u32]; done)), (HS.out).keep (l := []) (rest := [])⟩
    · have H := if_no c614 H
      have c614b0 : decide (8388608 < a599) = false := decide_eq_false c614
      clear c614
      obtain ⟨m615, HA616, H⟩ := bind_some H
      obtain ⟨hm617, hn618⟩ := mkLen_eq HA616
      have hm617H := Aside0.mk hm617
      clear hm617
      go_wp2_with (first | ((with_reducible refine gate_dst (N := 11) rfl ?_); refine make_event rfl (N := 11) rfl 22 23 (.tmp 10) (.tmp 10) rfl .i64 (.int .u32 0) 4 Try.underlying22 (by kernel_rfl) rfl (by decide) (Value.int .u32) 0 rfl m615 (by show Value.int _ _ = _; rw [hm617H.out]) (by show Value.int _ _ = _; rw [hm617H.out]) (by omega) HS.out ?_; intro g619 w620 HS1; replace HS : Aside0 (Sep (fps []) w [r5 (some ⟨g619, 0, none⟩) m615 m615 (List.replicate m615 (0 : Int))] w620) := ⟨HS1⟩; clear HS1) | ((with_reducible refine gate_dst (N := 13) rfl ?_); refine box_on ?hg (N := 13) ?hd (cs := #[.slice (some ⟨g619, 0, none⟩) m615 m615, .int .u64 0]) (t := 115) ?hr ?_; (case hd => rfl); (case hg => rfl); (case hr => first | (go_simp; done) | (go_simp; rfl)); intro g623 hg w624 hbox hb; replace HS : Aside0 (Sep (fps []) w [r5 (some ⟨g619, 0, none⟩) m615 m615 (List.replicate m615 (0 : Int)), b6 g623 (some ⟨g619, 0, none⟩) m615 m615 0] w624) := ⟨HS.out.box hg hbox hb⟩; clear hg hbox hb))
      go_ret2
      rw [← some_eq H]
      exact ⟨g623, (some ⟨g619, 0, none⟩), m615, m615, (by first | rfl | (simp [IntKind.wrap_u32]; done)), ((HS.out).front 1 (by simp)).keep (l := [b6 g623 (some ⟨g619, 0, none⟩) m615 m615 0, r5 (some ⟨g619, 0, none⟩) m615 m615 (List.replicate m615 (0 : Int))]) (rest := [])⟩

set_option maxHeartbeats 30000000 in
set_option maxRecDepth 100000 in
theorem ground_New.calls (k : Nat) (a3 : Int) (a4 : Int) (a5 : Int) (a6 : Int) (r : Unit ⊕ ((Int × Int × Int × Int × List Int) ⊕ Int)) (w : World)   (HS : Aside0 (Sep (fps []) w [] w)) (H : Aside0 (ground_New.f k a3 a4 a5 a6 = some r)) :
    Calls Try.prog 29 #[.agg #[.int .i64 a3, .int .i64 a4, .int .i64 a5, .int .i64 a6]] w fun e w' => Sum.elim (fun (r : Unit) => e = .returned (.tuple #[.pointer none, .int .i64 2]) ∧ Sep (fps []) w [] w') (fun (r_ : (Int × Int × Int × Int × List Int) ⊕ Int) => Sum.elim (fun (r : Int × Int × Int × Int × List Int) => ∃ (g760 : Nat) (g761 : Nat) (A762 : Option Addr) (m763 : Nat) (n764 : Nat), e = .returned (.tuple #[.pointer (some ⟨g760, 0, none⟩), .int .i64 0]) ∧ Sep (fps []) w [b7 g760 g761 r.1 r.2.1 r.2.2.1 r.2.2.2.1, b6 g761 A762 m763 n764 0, r5 A762 m763 n764 r.2.2.2.2] w') (fun (r : Int) => e = .returned (.tuple #[.pointer none, .int .i64 r]) ∧ Sep (fps []) w [] w') r_) r := by
  unfold ground_New.f at H
  go_enter Try.func29, Try.ntmps29
  go_wp2_with (first | ((with_reducible refine gate_dst (N := 1) rfl ?_); refine box_on ?hg (N := 1) ?hd (cs := #[.int .i64 a3, .int .i64 a4, .int .i64 a5, .int .i64 a6]) (t := 49) ?hr ?_; (case hd => rfl); (case hg => rfl); (case hr => first | (go_simp; done) | (go_simp; rfl)); intro g705 hg w706 hbox hb; replace HS : Aside0 (Sep (fps []) w [b1 g705 a3 a4 a5 a6] w706) := ⟨HS.out.box hg hbox hb⟩; clear hg hbox hb; have hc708 : w706.cell? ⟨g705, 0, none⟩ = some (.int .i64 a3) := blk_cellv (HS.out.at0) 0 rfl; have hc709 : w706.cell? ⟨g705, 1, none⟩ = some (.int .i64 a4) := blk_cellv (HS.out.at0) 1 rfl; have hc710 : w706.cell? ⟨g705, 2, none⟩ = some (.int .i64 a5) := blk_cellv (HS.out.at0) 2 rfl; have hc711 : w706.cell? ⟨g705, 3, none⟩ = some (.int .i64 a6) := blk_cellv (HS.out.at0) 3 rfl))
  clear hc708 hc709 hc710 hc711
  obtain ⟨t712, HA713, H⟩ := bind_some H
  refine (plan_Of.calls _ a3 a4 a5 a6 t712 _ ⟨HS.out.begin (l := []) (rest := [b1 g705 a3 a4 a5 a6])⟩ HA713).mono ?_
  rintro e_ w714 ⟨rfl, hS⟩
  replace HS : Aside0 (Sep (fps []) w [b1 g705 a3 a4 a5 a6] w714) := ⟨HS.out.call (l := []) (rest := [b1 g705 a3 a4 a5 a6]) hS⟩
  clear hS
  by_cases c735 : t712.2.2.2.2.2.2.2.2 = 0
  · have H := if_yes c735 H
    have c735b0 : (t712.2.2.2.2.2.2.2.2 == 0) = true := beq_iff_eq.mpr c735
    have c735b1 : (t712.2.2.2.2.2.2.2.2 != 0) = false := bne_eq_false_iff_eq.mpr c735
    clear c735
    go_wp2_with (first | ((with_reducible refine gate_dst (N := 4) rfl ?_); refine box_on ?hg (N := 4) ?hd (cs := #[.int .i64 0, .int .i64 0, .int .i64 0, .int .i64 0, .int .i64 0, .int .i64 0, .int .i64 0, .int .i64 0]) (t := 120) ?hr ?_; (case hd => rfl); (case hg => rfl); (case hr => first | (go_simp; done) | (go_simp; rfl)); intro g715 hg w716 hbox hb; replace HS : Aside0 (Sep (fps []) w [b1 g705 a3 a4 a5 a6, b2 g715 0 0 0 0 0 0 0 0] w716) := ⟨HS.out.box hg hbox hb⟩; clear hg hbox hb; have hc718 : w716.cell? ⟨g715, 0, none⟩ = some (.int .i64 0) := blk_cellv (HS.out.at1) 0 rfl; have hz719 : w716.frozen? ⟨g715, 0, none⟩ = false := blk_fz (HS.out.at1) 0; have hc720 : w716.cell? ⟨g715, 1, none⟩ = some (.int .i64 0) := blk_cellv (HS.out.at1) 1 rfl; have hz721 : w716.frozen? ⟨g715, 1, none⟩ = false := blk_fz (HS.out.at1) 1; have hc722 : w716.cell? ⟨g715, 2, none⟩ = some (.int .i64 0) := blk_cellv (HS.out.at1) 2 rfl; have hz723 : w716.frozen? ⟨g715, 2, none⟩ = false := blk_fz (HS.out.at1) 2; have hc724 : w716.cell? ⟨g715, 3, none⟩ = some (.int .i64 0) := blk_cellv (HS.out.at1) 3 rfl; have hz725 : w716.frozen? ⟨g715, 3, none⟩ = false := blk_fz (HS.out.at1) 3; have hc726 : w716.cell? ⟨g715, 4, none⟩ = some (.int .i64 0) := blk_cellv (HS.out.at1) 4 rfl; have hz727 : w716.frozen? ⟨g715, 4, none⟩ = false := blk_fz (HS.out.at1) 4; have hc728 : w716.cell? ⟨g715, 5, none⟩ = some (.int .i64 0) := blk_cellv (HS.out.at1) 5 rfl; have hz729 : w716.frozen? ⟨g715, 5, none⟩ = false := blk_fz (HS.out.at1) 5; have hc730 : w716.cell? ⟨g715, 6, none⟩ = some (.int .i64 0) := blk_cellv (HS.out.at1) 6 rfl; have hz731 : w716.frozen? ⟨g715, 6, none⟩ = false := blk_fz (HS.out.at1) 6; have hc732 : w716.cell? ⟨g715, 7, none⟩ = some (.int .i64 0) := blk_cellv (HS.out.at1) 7 rfl; have hz733 : w716.frozen? ⟨g715, 7, none⟩ = false := blk_fz (HS.out.at1) 7) | ((with_reducible refine gate_store (t := 120) (p := 4) rfl ?_); refine store_event (w1 := (World.setCell (World.setCell (World.setCell (World.setCell (World.setCell (World.setCell (World.setCell (World.setCell w716 ⟨g715, 0, none⟩ (.int .i64 t712.1)) ⟨g715, 1, none⟩ (.int .i64 t712.2.1)) ⟨g715, 2, none⟩ (.int .i64 t712.2.2.1)) ⟨g715, 3, none⟩ (.int .i64 t712.2.2.2.1)) ⟨g715, 4, none⟩ (.int .i64 t712.2.2.2.2.1)) ⟨g715, 5, none⟩ (.int .i64 t712.2.2.2.2.2.1)) ⟨g715, 6, none⟩ (.int .i64 t712.2.2.2.2.2.2.1)) ⟨g715, 7, none⟩ (.int .i64 t712.2.2.2.2.2.2.2.1))) rfl (t := 120) (p := 4) rfl rfl ?hr ?_; (case hr => first | (go_simp; done) | (go_simp; rfl)); intro w734 hst; clear hc718 hz719 hc720 hz721 hc722 hz723 hc724 hz725 hc726 hz727 hc728 hz729 hc730 hz731 hc732 hz733; replace HS : Aside0 (Sep (fps []) w [b1 g705 a3 a4 a5 a6, b2 g715 t712.1 t712.2.1 t712.2.2.1 t712.2.2.2.1 t712.2.2.2.2.1 t712.2.2.2.2.2.1 t712.2.2.2.2.2.2.1 t712.2.2.2.2.2.2.2.1] w734) := ⟨by rw [hst]; exact HS.out.setAll (l1 := [b1 g705 a3 a4 a5 a6]) (l2 := []) [.int .i64 t712.1, .int .i64 t712.2.1, .int .i64 t712.2.2.1, .int .i64 t712.2.2.2.1, .int .i64 t712.2.2.2.2.1, .int .i64 t712.2.2.2.2.2.1, .int .i64 t712.2.2.2.2.2.2.1, .int .i64 t712.2.2.2.2.2.2.2.1] rfl⟩; clear hst; have hc736 : w734.cell? ⟨g715, 0, none⟩ = some (.int .i64 t712.1) := blk_cellv (HS.out.at1) 0 rfl))
    clear hc736
    obtain ⟨t737, HA738, H⟩ := bind_some H
    rcases t737 with t739 | t740
    · have H := sum_l H
      refine (store_New.calls t712.1 (.inl t739) _ ⟨HS.out.begin (l := []) (rest := [b1 g705 a3 a4 a5 a6, b2 g715 t712.1 t712.2.1 t712.2.2.1 t712.2.2.2.1 t712.2.2.2.2.1 t712.2.2.2.2.2.1 t712.2.2.2.2.2.2.1 t712.2.2.2.2.2.2.2.1])⟩ HA738).mono ?_
      rintro e_ w741 ⟨rfl, hS⟩
      replace HS : Aside0 (Sep (fps []) w [b1 g705 a3 a4 a5 a6, b2 g715 t712.1 t712.2.1 t712.2.2.1 t712.2.2.2.1 t712.2.2.2.2.1 t712.2.2.2.2.2.1 t712.2.2.2.2.2.2.1 t712.2.2.2.2.2.2.2.1] w741) := ⟨HS.out.call (l := []) (rest := [b1 g705 a3 a4 a5 a6, b2 g715 t712.1 t712.2.1 t712.2.2.1 t712.2.2.2.1 t712.2.2.2.2.1 t712.2.2.2.2.2.1 t712.2.2.2.2.2.2.1 t712.2.2.2.2.2.2.2.1]) hS⟩
      clear hS
      replace HS : Aside0 (Sep (fps []) w [b1 g705 a3 a4 a5 a6] w741) := ⟨HS.out.sub (.cons_cons _ (.cons _ .slnil))⟩
      replace HS : Aside0 (Sep (fps []) w [] w741) := ⟨HS.out.sub (.cons _ .slnil)⟩
      go_wp2_with fail
      go_ret2
      rw [← some_eq H]
      exact ⟨(by first | rfl | (simp [IntKind.wrap_u32]; done)), (HS.out).keep (l := []) (rest := [])⟩
    · have H := sum_r H
      refine (store_New.calls t712.1 (.inr t740) _ ⟨HS.out.begin (l := []) (rest := [b1 g705 a3 a4 a5 a6, b2 g715 t712.1 t712.2.1 t712.2.2.1 t712.2.2.2.1 t712.2.2.2.2.1 t712.2.2.2.2.2.1 t712.2.2.2.2.2.2.1 t712.2.2.2.2.2.2.2.1])⟩ HA738).mono ?_
      rintro e_ w742 ⟨g745, A746, m747, n748, rfl, hS⟩
      replace HS : Aside0 (Sep (fps []) w [b6 g745 A746 m747 n748 0, r5 A746 m747 n748 t740, b1 g705 a3 a4 a5 a6, b2 g715 t712.1 t712.2.1 t712.2.2.1 t712.2.2.2.1 t712.2.2.2.2.1 t712.2.2.2.2.2.1 t712.2.2.2.2.2.2.1 t712.2.2.2.2.2.2.2.1] w742) := ⟨HS.out.call (l := []) (rest := [b1 g705 a3 a4 a5 a6, b2 g715 t712.1 t712.2.1 t712.2.2.1 t712.2.2.2.1 t712.2.2.2.2.1 t712.2.2.2.2.2.1 t712.2.2.2.2.2.2.1 t712.2.2.2.2.2.2.2.1]) hS⟩
      clear hS
      obtain rfl := (row_len (HS.out.at1)).symm
      replace HS : Aside0 (Sep (fps []) w [b6 g745 A746 t740.length n748 0, r5 A746 t740.length n748 t740, b1 g705 a3 a4 a5 a6] w742) := ⟨HS.out.sub (.cons_cons _ (.cons_cons _ (.cons_cons _ (.cons _ .slnil))))⟩
      have hc750 : w742.cell? ⟨g705, 0, none⟩ = some (.int .i64 a3) := blk_cellv (HS.out.at2) 0 rfl
      have hc751 : w742.cell? ⟨g705, 1, none⟩ = some (.int .i64 a4) := blk_cellv (HS.out.at2) 1 rfl
      have hc752 : w742.cell? ⟨g705, 2, none⟩ = some (.int .i64 a5) := blk_cellv (HS.out.at2) 2 rfl
      have hc753 : w742.cell? ⟨g705, 3, none⟩ = some (.int .i64 a6) := blk_cellv (HS.out.at2) 3 rfl
      go_wp2_with (first | ((with_reducible refine gate_dst (N := 28) rfl ?_); refine box_on ?hg (N := 28) ?hd (cs := #[.pointer (some ⟨g745, 0, none⟩), .int .i64 a3, .int .i64 a4, .int .i64 a5, .int .i64 a6]) (t := 126) ?hr ?_; (case hd => rfl); (case hg => rfl); (case hr => first | (go_simp; done) | (go_simp; rfl)); intro g754 hg w755 hbox hb; clear hc750 hc751 hc752 hc753; replace HS : Aside0 (Sep (fps []) w [b6 g745 A746 t740.length n748 0, r5 A746 t740.length n748 t740, b1 g705 a3 a4 a5 a6, b7 g754 g745 a3 a4 a5 a6] w755) := ⟨HS.out.box hg hbox hb⟩; clear hg hbox hb; replace HS : Aside0 (Sep (fps []) w [b6 g745 A746 t740.length n748 0, r5 A746 t740.length n748 t740, b7 g754 g745 a3 a4 a5 a6] w755) := ⟨HS.out.sub (.cons_cons _ (.cons_cons _ (.cons _ (.cons_cons _ .slnil))))⟩))
      go_ret2
      rw [← some_eq H]
      exact ⟨g754, g745, A746, t740.length, n748, (by first | rfl | (simp [IntKind.wrap_u32]; done)), ((((HS.out).front 1 (by simp)).front 1 (by simp)).front 2 (by simp)).keep (l := [b7 g754 g745 a3 a4 a5 a6, b6 g745 A746 t740.length n748 0, r5 A746 t740.length n748 t740]) (rest := [])⟩
  · have H := if_no c735 H
    have c735b0 : (t712.2.2.2.2.2.2.2.2 == 0) = false := beq_eq_false_iff_ne.mpr c735
    have c735b1 : (t712.2.2.2.2.2.2.2.2 != 0) = true := bne_iff_ne.mpr c735
    clear c735
    go_wp2_with (first | ((with_reducible refine gate_dst (N := 4) rfl ?_); refine box_on ?hg (N := 4) ?hd (cs := #[.int .i64 0, .int .i64 0, .int .i64 0, .int .i64 0, .int .i64 0, .int .i64 0, .int .i64 0, .int .i64 0]) (t := 120) ?hr ?_; (case hd => rfl); (case hg => rfl); (case hr => first | (go_simp; done) | (go_simp; rfl)); intro g715 hg w716 hbox hb; replace HS : Aside0 (Sep (fps []) w [b1 g705 a3 a4 a5 a6, b2 g715 0 0 0 0 0 0 0 0] w716) := ⟨HS.out.box hg hbox hb⟩; clear hg hbox hb; have hc718 : w716.cell? ⟨g715, 0, none⟩ = some (.int .i64 0) := blk_cellv (HS.out.at1) 0 rfl; have hz719 : w716.frozen? ⟨g715, 0, none⟩ = false := blk_fz (HS.out.at1) 0; have hc720 : w716.cell? ⟨g715, 1, none⟩ = some (.int .i64 0) := blk_cellv (HS.out.at1) 1 rfl; have hz721 : w716.frozen? ⟨g715, 1, none⟩ = false := blk_fz (HS.out.at1) 1; have hc722 : w716.cell? ⟨g715, 2, none⟩ = some (.int .i64 0) := blk_cellv (HS.out.at1) 2 rfl; have hz723 : w716.frozen? ⟨g715, 2, none⟩ = false := blk_fz (HS.out.at1) 2; have hc724 : w716.cell? ⟨g715, 3, none⟩ = some (.int .i64 0) := blk_cellv (HS.out.at1) 3 rfl; have hz725 : w716.frozen? ⟨g715, 3, none⟩ = false := blk_fz (HS.out.at1) 3; have hc726 : w716.cell? ⟨g715, 4, none⟩ = some (.int .i64 0) := blk_cellv (HS.out.at1) 4 rfl; have hz727 : w716.frozen? ⟨g715, 4, none⟩ = false := blk_fz (HS.out.at1) 4; have hc728 : w716.cell? ⟨g715, 5, none⟩ = some (.int .i64 0) := blk_cellv (HS.out.at1) 5 rfl; have hz729 : w716.frozen? ⟨g715, 5, none⟩ = false := blk_fz (HS.out.at1) 5; have hc730 : w716.cell? ⟨g715, 6, none⟩ = some (.int .i64 0) := blk_cellv (HS.out.at1) 6 rfl; have hz731 : w716.frozen? ⟨g715, 6, none⟩ = false := blk_fz (HS.out.at1) 6; have hc732 : w716.cell? ⟨g715, 7, none⟩ = some (.int .i64 0) := blk_cellv (HS.out.at1) 7 rfl; have hz733 : w716.frozen? ⟨g715, 7, none⟩ = false := blk_fz (HS.out.at1) 7) | ((with_reducible refine gate_store (t := 120) (p := 4) rfl ?_); refine store_event (w1 := (World.setCell (World.setCell (World.setCell (World.setCell (World.setCell (World.setCell (World.setCell (World.setCell w716 ⟨g715, 0, none⟩ (.int .i64 t712.1)) ⟨g715, 1, none⟩ (.int .i64 t712.2.1)) ⟨g715, 2, none⟩ (.int .i64 t712.2.2.1)) ⟨g715, 3, none⟩ (.int .i64 t712.2.2.2.1)) ⟨g715, 4, none⟩ (.int .i64 t712.2.2.2.2.1)) ⟨g715, 5, none⟩ (.int .i64 t712.2.2.2.2.2.1)) ⟨g715, 6, none⟩ (.int .i64 t712.2.2.2.2.2.2.1)) ⟨g715, 7, none⟩ (.int .i64 t712.2.2.2.2.2.2.2.1))) rfl (t := 120) (p := 4) rfl rfl ?hr ?_; (case hr => first | (go_simp; done) | (go_simp; rfl)); intro w734 hst; clear hc718 hz719 hc720 hz721 hc722 hz723 hc724 hz725 hc726 hz727 hc728 hz729 hc730 hz731 hc732 hz733; replace HS : Aside0 (Sep (fps []) w [b1 g705 a3 a4 a5 a6, b2 g715 t712.1 t712.2.1 t712.2.2.1 t712.2.2.2.1 t712.2.2.2.2.1 t712.2.2.2.2.2.1 t712.2.2.2.2.2.2.1 t712.2.2.2.2.2.2.2.1] w734) := ⟨by rw [hst]; exact HS.out.setAll (l1 := [b1 g705 a3 a4 a5 a6]) (l2 := []) [.int .i64 t712.1, .int .i64 t712.2.1, .int .i64 t712.2.2.1, .int .i64 t712.2.2.2.1, .int .i64 t712.2.2.2.2.1, .int .i64 t712.2.2.2.2.2.1, .int .i64 t712.2.2.2.2.2.2.1, .int .i64 t712.2.2.2.2.2.2.2.1] rfl⟩; clear hst; replace HS : Aside0 (Sep (fps []) w [] w734) := ⟨HS.out.sub (.cons _ (.cons _ .slnil))⟩))
    go_ret2
    rw [← some_eq H]
    exact ⟨(by first | rfl | (simp [IntKind.wrap_u32]; done)), (HS.out).keep (l := []) (rest := [])⟩

set_option maxHeartbeats 30000000 in
set_option maxRecDepth 100000 in
theorem chain_of_nil.calls (a783 : Int) (r : Int × Int × Int × Bool) (w : World)   (HS : Aside0 (Sep (fps []) w [] w)) (H : Aside0 (chain_of_nil.f a783 = some r)) :
    Calls Try.prog 91 #[.pointer none, .int .i64 a783] w fun e w' => e = .returned (.tuple #[.agg #[.int .i64 r.1, .int .i64 r.2.1, .int .i64 r.2.2.1], .bool r.2.2.2]) ∧ Sep (fps []) w [] w' := by
  unfold chain_of_nil.f at H
  go_enter Try.func91, Try.ntmps91
  go_wp2_with (first | ((with_reducible refine gate_dst (N := 4) rfl ?_); refine box_on ?hg (N := 4) ?hd (cs := #[.int .i64 0, .int .i64 0, .int .i64 0]) (t := 134) ?hr ?_; (case hd => rfl); (case hg => rfl); (case hr => first | (go_simp; done) | (go_simp; rfl)); intro g784 hg w785 hbox hb; replace HS : Aside0 (Sep (fps []) w [b8 g784 0 0 0] w785) := ⟨HS.out.box hg hbox hb⟩; clear hg hbox hb; have hc787 : w785.cell? ⟨g784, 0, none⟩ = some (.int .i64 0) := blk_cellv (HS.out.at0) 0 rfl; have hz788 : w785.frozen? ⟨g784, 0, none⟩ = false := blk_fz (HS.out.at0) 0; have hc789 : w785.cell? ⟨g784, 1, none⟩ = some (.int .i64 0) := blk_cellv (HS.out.at0) 1 rfl; have hz790 : w785.frozen? ⟨g784, 1, none⟩ = false := blk_fz (HS.out.at0) 1; have hc791 : w785.cell? ⟨g784, 2, none⟩ = some (.int .i64 0) := blk_cellv (HS.out.at0) 2 rfl; have hz792 : w785.frozen? ⟨g784, 2, none⟩ = false := blk_fz (HS.out.at0) 2) | ((with_reducible refine gate_store (t := 134) (p := 4) rfl ?_); refine store_event (w1 := (World.setCell (World.setCell (World.setCell w785 ⟨g784, 0, none⟩ (.int .i64 0)) ⟨g784, 1, none⟩ (.int .i64 0)) ⟨g784, 2, none⟩ (.int .i64 0))) rfl (t := 134) (p := 4) rfl rfl ?hr ?_; (case hr => first | (go_simp; done) | (go_simp; rfl)); intro w793 hst; clear hc787 hz788 hc789 hz790 hc791 hz792; replace HS : Aside0 (Sep (fps []) w [b8 g784 0 0 0] w793) := ⟨by rw [hst]; exact HS.out.setAll (l1 := []) (l2 := []) [.int .i64 0, .int .i64 0, .int .i64 0] rfl⟩; clear hst))
  have hc794 : w793.cell? ⟨g784, 0, none⟩ = some (.int .i64 0) := blk_cellv (HS.out.at0) 0 rfl
  have hc795 : w793.cell? ⟨g784, 1, none⟩ = some (.int .i64 0) := blk_cellv (HS.out.at0) 1 rfl
  have hc796 : w793.cell? ⟨g784, 2, none⟩ = some (.int .i64 0) := blk_cellv (HS.out.at0) 2 rfl
  refine bodyPost_ret (v := .tuple #[.agg #[.int .i64 0, .int .i64 0, .int .i64 0], .bool false]) (by simp [results, Try.results91, go_sem, hc794, hc795, hc796]) rfl ?_
  rw [← some_eq H]
  exact ⟨(by first | rfl | (simp [IntKind.wrap_u32]; done)), (HS.out).keep (l := []) (rest := [b8 g784 0 0 0])⟩

set_option maxHeartbeats 30000000 in
set_option maxRecDepth 100000 in
theorem ground_Ground_all_nil.calls  (r : Unit) (w : World)   (HS : Aside0 (Sep (fps []) w [] w)) (H : Aside0 (ground_Ground_all_nil.f = some r)) :
    Calls Try.prog 77 #[.pointer none] w fun e w' => e = .returned (.pointer none) ∧ Sep (fps []) w [] w' := by
  unfold ground_Ground_all_nil.f at H
  go_enter Try.func77, Try.ntmps77
  go_wp2_with fail
  go_ret
  clear H
  exact ⟨(by first | rfl | (simp [IntKind.wrap_u32]; done)), (HS.out).keep (l := []) (rest := [])⟩

set_option maxHeartbeats 30000000 in
set_option maxRecDepth 100000 in
theorem ground_within.calls (a817 : Int) (a818 : Int) (a819 : Int) (r : Int) (w : World)   (HS : Aside0 (Sep (fps []) w [] w)) (H : Aside0 (ground_within.f a817 a818 a819 = some r)) :
    Calls Try.prog 109 #[.int .i64 a817, .int .i64 a818, .int .i64 a819] w fun e w' => e = .returned (.int .i64 r) ∧ Sep (fps []) w [] w' := by
  unfold ground_within.f at H
  go_enter Try.func109, Try.ntmps109
  by_cases c820 : a817 < 0
  · have H := if_yes c820 H
    have c820b0 : decide (a817 < 0) = true := decide_eq_true c820
    clear c820
    go_wp2_with fail
    go_ret
    rw [← some_eq H]
    exact ⟨(by first | rfl | (simp [IntKind.wrap_u32]; done)), (HS.out).keep (l := []) (rest := [])⟩
  · have H := if_no c820 H
    have c820b0 : decide (a817 < 0) = false := decide_eq_false c820
    clear c820
    by_cases c821 : a817 ≥ a818
    · have H := if_yes c821 H
      have c821b0 : decide (a818 ≤ a817) = true := decide_eq_true c821
      clear c821
      go_wp2_with fail
      go_ret
      rw [← some_eq H]
      exact ⟨(by first | rfl | (simp [IntKind.wrap_u32]; done)), (HS.out).keep (l := []) (rest := [])⟩
    · have H := if_no c821 H
      have c821b0 : decide (a818 ≤ a817) = false := decide_eq_false c821
      clear c821
      go_wp2_with fail
      go_ret
      rw [← some_eq H]
      exact ⟨(by first | rfl | (simp [IntKind.wrap_u32]; done)), (HS.out).keep (l := []) (rest := [])⟩

set_option maxHeartbeats 30000000 in
set_option maxRecDepth 100000 in
theorem ground_reg.calls (a816 : Int) (r : Int) (w : World)   (HS : Aside0 (Sep (fps []) w [] w)) (H : Aside0 (ground_reg.f a816 = some r)) :
    Calls Try.prog 78 #[.int .i64 a816] w fun e w' => e = .returned (.int .i64 r) ∧ Sep (fps []) w [] w' := by
  unfold ground_reg.f at H
  go_enter Try.func78, Try.ntmps78
  go_wp2_with fail
  obtain ⟨t822, HA823, H⟩ := bind_some H
  refine (ground_within.calls a816 24 0 t822 _ ⟨HS.out.begin (l := []) (rest := [])⟩ HA823).mono ?_
  rintro e_ w824 ⟨rfl, hS⟩
  replace HS : Aside0 (Sep (fps []) w [] w824) := ⟨HS.out.call (l := []) (rest := []) hS⟩
  clear hS
  go_wp2_with fail
  go_ret
  rw [← some_eq H]
  exact ⟨(by first | rfl | (simp [IntKind.wrap_u32]; done)), (HS.out).keep (l := []) (rest := [])⟩

set_option maxHeartbeats 30000000 in
set_option maxRecDepth 100000 in
theorem store_Store_has_nil.calls (a829 : Int) (r : Bool) (w : World)   (HS : Aside0 (Sep (fps []) w [] w)) (H : Aside0 (store_Store_has_nil.f a829 = some r)) :
    Calls Try.prog 69 #[.pointer none, .int .i64 a829] w fun e w' => e = .returned (.bool r) ∧ Sep (fps []) w [] w' := by
  unfold store_Store_has_nil.f at H
  go_enter Try.func69, Try.ntmps69
  go_wp2_with fail
  go_ret
  rw [← some_eq H]
  exact ⟨(by first | rfl | (simp [IntKind.wrap_u32]; done)), (HS.out).keep (l := []) (rest := [])⟩

set_option maxHeartbeats 30000000 in
set_option maxRecDepth 100000 in
theorem store_Store_Get_nil.calls (a828 : Int) (r : Int) (w : World)   (HS : Aside0 (Sep (fps []) w [] w)) (H : Aside0 (store_Store_Get_nil.f a828 = some r)) :
    Calls Try.prog 25 #[.pointer none, .int .i64 a828] w fun e w' => e = .returned (.int .u32 r) ∧ Sep (fps []) w [] w' := by
  unfold store_Store_Get_nil.f at H
  go_enter Try.func25, Try.ntmps25
  go_wp2_with fail
  obtain ⟨t830, HA831, H⟩ := bind_some H
  refine (store_Store_has_nil.calls a828 t830 _ ⟨HS.out.begin (l := []) (rest := [])⟩ HA831).mono ?_
  rintro e_ w832 ⟨rfl, hS⟩
  replace HS : Aside0 (Sep (fps []) w [] w832) := ⟨HS.out.call (l := []) (rest := []) hS⟩
  clear hS
  by_cases c833 : t830 = true
  · have H := if_yes c833 H
    have c833b0 : t830 = true := c833
    have c833b1 : (!t830) = false := by rw [c833b0]; rfl
    try rw [c833b1]
    clear c833
    exact (none_no H).elim
  · have H := if_no c833 H
    have c833b0 : t830 = false := by simpa using c833
    have c833b1 : (!t830) = true := by rw [c833b0]; rfl
    try rw [c833b1]
    clear c833
    go_wp2_with fail
    go_ret
    rw [← some_eq H]
    exact ⟨(by first | rfl | (simp [IntKind.wrap_u32]; done)), (HS.out).keep (l := []) (rest := [])⟩

set_option maxHeartbeats 30000000 in
set_option maxRecDepth 100000 in
theorem ground_Ground_Reg_nil.calls (a812 : Int) (r : Int) (w : World)   (HS : Aside0 (Sep (fps []) w [] w)) (H : Aside0 (ground_Ground_Reg_nil.f a812 = some r)) :
    Calls Try.prog 36 #[.pointer none, .int .i64 a812] w fun e w' => e = .returned (.int .i64 r) ∧ Sep (fps []) w [] w' := by
  unfold ground_Ground_Reg_nil.f at H
  go_enter Try.func36, Try.ntmps36
  go_wp2_with fail
  obtain ⟨t813, HA814, H⟩ := bind_some H
  refine (ground_Ground_all_nil.calls t813 _ ⟨HS.out.begin (l := []) (rest := [])⟩ HA814).mono ?_
  rintro e_ w815 ⟨rfl, hS⟩
  replace HS : Aside0 (Sep (fps []) w [] w815) := ⟨HS.out.call (l := []) (rest := []) hS⟩
  clear hS
  go_wp2_with fail
  obtain ⟨t825, HA826, H⟩ := bind_some H
  refine (ground_reg.calls a812 t825 _ ⟨HS.out.begin (l := []) (rest := [])⟩ HA826).mono ?_
  rintro e_ w827 ⟨rfl, hS⟩
  replace HS : Aside0 (Sep (fps []) w [] w827) := ⟨HS.out.call (l := []) (rest := []) hS⟩
  clear hS
  go_wp2_with fail
  obtain ⟨t834, HA835, H⟩ := bind_some H
  refine (store_Store_Get_nil.calls t825 t834 _ ⟨HS.out.begin (l := []) (rest := [])⟩ HA835).mono ?_
  rintro e_ w836 ⟨rfl, hS⟩
  replace HS : Aside0 (Sep (fps []) w [] w836) := ⟨HS.out.call (l := []) (rest := []) hS⟩
  clear hS
  go_wp2_with fail
  go_ret
  rw [← some_eq H]
  exact ⟨(by first | rfl | (simp [IntKind.wrap_u32]; done)), (HS.out).keep (l := []) (rest := [])⟩

set_option maxHeartbeats 30000000 in
set_option maxRecDepth 100000 in
theorem ground_Ground_Conf_nil.calls  (r : Int × Int × Int × Int) (w : World)   (HS : Aside0 (Sep (fps []) w [] w)) (H : Aside0 (ground_Ground_Conf_nil.f = some r)) :
    Calls Try.prog 39 #[.pointer none] w fun e w' => e = .returned (.agg #[.int .i64 r.1, .int .i64 r.2.1, .int .i64 r.2.2.1, .int .i64 r.2.2.2]) ∧ Sep (fps []) w [] w' := by
  unfold ground_Ground_Conf_nil.f at H
  go_enter Try.func39, Try.ntmps39
  go_wp2_with (first | ((with_reducible refine gate_dst (N := 2) rfl ?_); refine box_on ?hg (N := 2) ?hd (cs := #[.int .i64 0, .int .i64 0, .int .i64 0, .int .i64 0]) (t := 49) ?hr ?_; (case hd => rfl); (case hg => rfl); (case hr => first | (go_simp; done) | (go_simp; rfl)); intro g848 hg w849 hbox hb; replace HS : Aside0 (Sep (fps []) w [b1 g848 0 0 0 0] w849) := ⟨HS.out.box hg hbox hb⟩; clear hg hbox hb; have hc851 : w849.cell? ⟨g848, 0, none⟩ = some (.int .i64 0) := blk_cellv (HS.out.at0) 0 rfl; have hz852 : w849.frozen? ⟨g848, 0, none⟩ = false := blk_fz (HS.out.at0) 0; have hc853 : w849.cell? ⟨g848, 1, none⟩ = some (.int .i64 0) := blk_cellv (HS.out.at0) 1 rfl; have hz854 : w849.frozen? ⟨g848, 1, none⟩ = false := blk_fz (HS.out.at0) 1; have hc855 : w849.cell? ⟨g848, 2, none⟩ = some (.int .i64 0) := blk_cellv (HS.out.at0) 2 rfl; have hz856 : w849.frozen? ⟨g848, 2, none⟩ = false := blk_fz (HS.out.at0) 2; have hc857 : w849.cell? ⟨g848, 3, none⟩ = some (.int .i64 0) := blk_cellv (HS.out.at0) 3 rfl; have hz858 : w849.frozen? ⟨g848, 3, none⟩ = false := blk_fz (HS.out.at0) 3) | ((with_reducible refine gate_store (t := 49) (p := 2) rfl ?_); refine store_event (w1 := (World.setCell (World.setCell (World.setCell (World.setCell w849 ⟨g848, 0, none⟩ (.int .i64 0)) ⟨g848, 1, none⟩ (.int .i64 0)) ⟨g848, 2, none⟩ (.int .i64 0)) ⟨g848, 3, none⟩ (.int .i64 0))) rfl (t := 49) (p := 2) rfl rfl ?hr ?_; (case hr => first | (go_simp; done) | (go_simp; rfl)); intro w859 hst; clear hc851 hz852 hc853 hz854 hc855 hz856 hc857 hz858; replace HS : Aside0 (Sep (fps []) w [b1 g848 0 0 0 0] w859) := ⟨by rw [hst]; exact HS.out.setAll (l1 := []) (l2 := []) [.int .i64 0, .int .i64 0, .int .i64 0, .int .i64 0] rfl⟩; clear hst))
  have hc860 : w859.cell? ⟨g848, 0, none⟩ = some (.int .i64 0) := blk_cellv (HS.out.at0) 0 rfl
  have hc861 : w859.cell? ⟨g848, 1, none⟩ = some (.int .i64 0) := blk_cellv (HS.out.at0) 1 rfl
  have hc862 : w859.cell? ⟨g848, 2, none⟩ = some (.int .i64 0) := blk_cellv (HS.out.at0) 2 rfl
  have hc863 : w859.cell? ⟨g848, 3, none⟩ = some (.int .i64 0) := blk_cellv (HS.out.at0) 3 rfl
  refine bodyPost_ret (v := .agg #[.int .i64 0, .int .i64 0, .int .i64 0, .int .i64 0]) (by simp [results, Try.results39, go_sem, hc860, hc861, hc862, hc863]) rfl ?_
  rw [← some_eq H]
  exact ⟨(by first | rfl | (simp [IntKind.wrap_u32]; done)), (HS.out).keep (l := []) (rest := [b1 g848 0 0 0 0])⟩

set_option maxHeartbeats 30000000 in
set_option maxRecDepth 100000 in
theorem ground_Ground_word_nil.calls (a846 : Int) (a847 : Int) (r : Int) (w : World)   (HS : Aside0 (Sep (fps []) w [] w)) (H : Aside0 (ground_Ground_word_nil.f a846 a847 = some r)) :
    Calls Try.prog 87 #[.pointer none, .int .i64 a846, .int .i64 a847] w fun e w' => e = .returned (.int .i64 r) ∧ Sep (fps []) w [] w' := by
  unfold ground_Ground_word_nil.f at H
  go_enter Try.func87, Try.ntmps87
  go_wp2_with fail
  obtain ⟨t864, HA865, H⟩ := bind_some H
  refine (ground_Ground_Conf_nil.calls t864 _ ⟨HS.out.begin (l := []) (rest := [])⟩ HA865).mono ?_
  rintro e_ w866 ⟨rfl, hS⟩
  replace HS : Aside0 (Sep (fps []) w [] w866) := ⟨HS.out.call (l := []) (rest := []) hS⟩
  clear hS
  go_wp2_with (first | ((with_reducible refine gate_dst (N := 7) rfl ?_); refine box_on ?hg (N := 7) ?hd (cs := #[.int .i64 0, .int .i64 0, .int .i64 0, .int .i64 0]) (t := 49) ?hr ?_; (case hd => rfl); (case hg => rfl); (case hr => first | (go_simp; done) | (go_simp; rfl)); intro g867 hg w868 hbox hb; replace HS : Aside0 (Sep (fps []) w [b1 g867 0 0 0 0] w868) := ⟨HS.out.box hg hbox hb⟩; clear hg hbox hb; have hc870 : w868.cell? ⟨g867, 0, none⟩ = some (.int .i64 0) := blk_cellv (HS.out.at0) 0 rfl; have hz871 : w868.frozen? ⟨g867, 0, none⟩ = false := blk_fz (HS.out.at0) 0; have hc872 : w868.cell? ⟨g867, 1, none⟩ = some (.int .i64 0) := blk_cellv (HS.out.at0) 1 rfl; have hz873 : w868.frozen? ⟨g867, 1, none⟩ = false := blk_fz (HS.out.at0) 1; have hc874 : w868.cell? ⟨g867, 2, none⟩ = some (.int .i64 0) := blk_cellv (HS.out.at0) 2 rfl; have hz875 : w868.frozen? ⟨g867, 2, none⟩ = false := blk_fz (HS.out.at0) 2; have hc876 : w868.cell? ⟨g867, 3, none⟩ = some (.int .i64 0) := blk_cellv (HS.out.at0) 3 rfl; have hz877 : w868.frozen? ⟨g867, 3, none⟩ = false := blk_fz (HS.out.at0) 3) | ((with_reducible refine gate_store (t := 49) (p := 7) rfl ?_); refine store_event (w1 := (World.setCell (World.setCell (World.setCell (World.setCell w868 ⟨g867, 0, none⟩ (.int .i64 t864.1)) ⟨g867, 1, none⟩ (.int .i64 t864.2.1)) ⟨g867, 2, none⟩ (.int .i64 t864.2.2.1)) ⟨g867, 3, none⟩ (.int .i64 t864.2.2.2))) rfl (t := 49) (p := 7) rfl rfl ?hr ?_; (case hr => first | (go_simp; done) | (go_simp; rfl)); intro w878 hst; clear hc870 hz871 hc872 hz873 hc874 hz875 hc876 hz877; replace HS : Aside0 (Sep (fps []) w [b1 g867 t864.1 t864.2.1 t864.2.2.1 t864.2.2.2] w878) := ⟨by rw [hst]; exact HS.out.setAll (l1 := []) (l2 := []) [.int .i64 t864.1, .int .i64 t864.2.1, .int .i64 t864.2.2.1, .int .i64 t864.2.2.2] rfl⟩; clear hst; have hc879 : w878.cell? ⟨g867, 0, none⟩ = some (.int .i64 t864.1) := blk_cellv (HS.out.at0) 0 rfl))
  clear hc879
  obtain ⟨t880, HA881, H⟩ := bind_some H
  refine (ground_within.calls a846 t864.1 0 t880 _ ⟨HS.out.begin (l := []) (rest := [b1 g867 t864.1 t864.2.1 t864.2.2.1 t864.2.2.2])⟩ HA881).mono ?_
  rintro e_ w882 ⟨rfl, hS⟩
  replace HS : Aside0 (Sep (fps []) w [b1 g867 t864.1 t864.2.1 t864.2.2.1 t864.2.2.2] w882) := ⟨HS.out.call (l := []) (rest := [b1 g867 t864.1 t864.2.1 t864.2.2.1 t864.2.2.2]) hS⟩
  clear hS
  by_cases c883 : t880 = (-1)
  · have H := if_yes c883 H
    have c883b0 : (t880 == (-1)) = true := beq_iff_eq.mpr c883
    have c883b1 : (t880 != (-1)) = false := bne_eq_false_iff_eq.mpr c883
    clear c883
    replace HS : Aside0 (Sep (fps []) w [] w882) := ⟨HS.out.sub (.cons _ .slnil)⟩
    go_wp2_with fail
    go_ret
    rw [← some_eq H]
    exact ⟨(by first | rfl | (simp [IntKind.wrap_u32]; done)), (HS.out).keep (l := []) (rest := [])⟩
  · have H := if_no c883 H
    have c883b0 : (t880 == (-1)) = false := beq_eq_false_iff_ne.mpr c883
    have c883b1 : (t880 != (-1)) = true := bne_iff_ne.mpr c883
    clear c883
    have hc884 : w882.cell? ⟨g867, 1, none⟩ = some (.int .i64 t864.2.1) := blk_cellv (HS.out.at0) 1 rfl
    have hc885 : w882.cell? ⟨g867, 2, none⟩ = some (.int .i64 t864.2.2.1) := blk_cellv (HS.out.at0) 2 rfl
    go_wp2_with fail
    clear hc884 hc885
    obtain ⟨t886, HA887, H⟩ := bind_some H
    refine (ground_within.calls a847 t864.2.1 (wrap64 ((wrap64 (24 + t864.2.2.1)) + (wrap64 (a846 * t864.2.1)))) t886 _ ⟨HS.out.begin (l := []) (rest := [b1 g867 t864.1 t864.2.1 t864.2.2.1 t864.2.2.2])⟩ HA887).mono ?_
    rintro e_ w888 ⟨rfl, hS⟩
    replace HS : Aside0 (Sep (fps []) w [b1 g867 t864.1 t864.2.1 t864.2.2.1 t864.2.2.2] w888) := ⟨HS.out.call (l := []) (rest := [b1 g867 t864.1 t864.2.1 t864.2.2.1 t864.2.2.2]) hS⟩
    clear hS
    replace HS : Aside0 (Sep (fps []) w [] w888) := ⟨HS.out.sub (.cons _ .slnil)⟩
    go_wp2_with fail
    go_ret
    rw [← some_eq H]
    exact ⟨(by first | rfl | (simp [IntKind.wrap_u32]; done)), (HS.out).keep (l := []) (rest := [])⟩

set_option maxHeartbeats 30000000 in
set_option maxRecDepth 100000 in
theorem ground_Ground_Word_nil.calls (a841 : Int) (a842 : Int) (r : Int) (w : World)   (HS : Aside0 (Sep (fps []) w [] w)) (H : Aside0 (ground_Ground_Word_nil.f a841 a842 = some r)) :
    Calls Try.prog 45 #[.pointer none, .int .i64 a841, .int .i64 a842] w fun e w' => e = .returned (.int .u32 r) ∧ Sep (fps []) w [] w' := by
  unfold ground_Ground_Word_nil.f at H
  go_enter Try.func45, Try.ntmps45
  go_wp2_with fail
  obtain ⟨t843, HA844, H⟩ := bind_some H
  refine (ground_Ground_all_nil.calls t843 _ ⟨HS.out.begin (l := []) (rest := [])⟩ HA844).mono ?_
  rintro e_ w845 ⟨rfl, hS⟩
  replace HS : Aside0 (Sep (fps []) w [] w845) := ⟨HS.out.call (l := []) (rest := []) hS⟩
  clear hS
  go_wp2_with fail
  obtain ⟨t889, HA890, H⟩ := bind_some H
  refine (ground_Ground_word_nil.calls a841 a842 t889 _ ⟨HS.out.begin (l := []) (rest := [])⟩ HA890).mono ?_
  rintro e_ w891 ⟨rfl, hS⟩
  replace HS : Aside0 (Sep (fps []) w [] w891) := ⟨HS.out.call (l := []) (rest := []) hS⟩
  clear hS
  go_wp2_with fail
  obtain ⟨t892, HA893, H⟩ := bind_some H
  refine (store_Store_Get_nil.calls t889 t892 _ ⟨HS.out.begin (l := []) (rest := [])⟩ HA893).mono ?_
  rintro e_ w894 ⟨rfl, hS⟩
  replace HS : Aside0 (Sep (fps []) w [] w894) := ⟨HS.out.call (l := []) (rest := []) hS⟩
  clear hS
  go_wp2_with fail
  go_ret
  rw [← some_eq H]
  exact ⟨(by first | rfl | (simp [IntKind.wrap_u32]; done)), (HS.out).keep (l := []) (rest := [])⟩

set_option maxHeartbeats 30000000 in
set_option maxRecDepth 100000 in
theorem store_Store_Put_nil.calls (a907 : Int) (a908 : Int) (r : Bool) (w : World)   (HS : Aside0 (Sep (fps []) w [] w)) (H : Aside0 (store_Store_Put_nil.f a907 a908 = some r)) :
    Calls Try.prog 22 #[.pointer none, .int .i64 a907, .int .u32 a908] w fun e w' => e = .returned (.bool r) ∧ Sep (fps []) w [] w' := by
  unfold store_Store_Put_nil.f at H
  go_enter Try.func22, Try.ntmps22
  go_wp2_with fail
  obtain ⟨t909, HA910, H⟩ := bind_some H
  refine (store_Store_has_nil.calls a907 t909 _ ⟨HS.out.begin (l := []) (rest := [])⟩ HA910).mono ?_
  rintro e_ w911 ⟨rfl, hS⟩
  replace HS : Aside0 (Sep (fps []) w [] w911) := ⟨HS.out.call (l := []) (rest := []) hS⟩
  clear hS
  by_cases c912 : t909 = true
  · have H := if_yes c912 H
    have c912b0 : t909 = true := c912
    have c912b1 : (!t909) = false := by rw [c912b0]; rfl
    try rw [c912b1]
    clear c912
    exact (none_no H).elim
  · have H := if_no c912 H
    have c912b0 : t909 = false := by simpa using c912
    have c912b1 : (!t909) = true := by rw [c912b0]; rfl
    try rw [c912b1]
    clear c912
    go_wp2_with fail
    go_ret
    rw [← some_eq H]
    exact ⟨(by first | rfl | (simp [IntKind.wrap_u32]; done)), (HS.out).keep (l := []) (rest := [])⟩

set_option maxHeartbeats 30000000 in
set_option maxRecDepth 100000 in
theorem ground_Ground_SetWord_nil.calls (a898 : Int) (a899 : Int) (a900 : Int) (r : Bool) (w : World)   (HS : Aside0 (Sep (fps []) w [] w)) (H : Aside0 (ground_Ground_SetWord_nil.f a898 a899 a900 = some r)) :
    Calls Try.prog 46 #[.pointer none, .int .i64 a898, .int .i64 a899, .int .u32 a900] w fun e w' => e = .returned (.bool r) ∧ Sep (fps []) w [] w' := by
  unfold ground_Ground_SetWord_nil.f at H
  go_enter Try.func46, Try.ntmps46
  go_wp2_with fail
  obtain ⟨t901, HA902, H⟩ := bind_some H
  refine (ground_Ground_all_nil.calls t901 _ ⟨HS.out.begin (l := []) (rest := [])⟩ HA902).mono ?_
  rintro e_ w903 ⟨rfl, hS⟩
  replace HS : Aside0 (Sep (fps []) w [] w903) := ⟨HS.out.call (l := []) (rest := []) hS⟩
  clear hS
  go_wp2_with fail
  obtain ⟨t904, HA905, H⟩ := bind_some H
  refine (ground_Ground_word_nil.calls a898 a899 t904 _ ⟨HS.out.begin (l := []) (rest := [])⟩ HA905).mono ?_
  rintro e_ w906 ⟨rfl, hS⟩
  replace HS : Aside0 (Sep (fps []) w [] w906) := ⟨HS.out.call (l := []) (rest := []) hS⟩
  clear hS
  go_wp2_with fail
  obtain ⟨t913, HA914, H⟩ := bind_some H
  refine (store_Store_Put_nil.calls t904 a900 t913 _ ⟨HS.out.begin (l := []) (rest := [])⟩ HA914).mono ?_
  rintro e_ w915 ⟨rfl, hS⟩
  replace HS : Aside0 (Sep (fps []) w [] w915) := ⟨HS.out.call (l := []) (rest := []) hS⟩
  clear hS
  go_wp2_with fail
  go_ret
  rw [← some_eq H]
  exact ⟨(by first | rfl | (simp [IntKind.wrap_u32]; done)), (HS.out).keep (l := []) (rest := [])⟩

set_option maxHeartbeats 30000000 in
set_option maxRecDepth 100000 in
theorem ground_Ground_set_nil.calls (a925 : Int) (a926 : Int) (r : Bool) (w : World)   (HS : Aside0 (Sep (fps []) w [] w)) (H : Aside0 (ground_Ground_set_nil.f a925 a926 = some r)) :
    Calls Try.prog 85 #[.pointer none, .int .i64 a925, .int .i64 a926] w fun e w' => e = .returned (.bool r) ∧ Sep (fps []) w [] w' := by
  unfold ground_Ground_set_nil.f at H
  go_enter Try.func85, Try.ntmps85
  by_cases c927 : a926 < 0
  · have H := if_yes c927 H
    have c927b0 : decide (a926 < 0) = true := decide_eq_true c927
    clear c927
    go_wp2_with fail
    go_ret
    rw [← some_eq H]
    exact ⟨(by first | rfl | (simp [IntKind.wrap_u32]; done)), (HS.out).keep (l := []) (rest := [])⟩
  · have H := if_no c927 H
    have c927b0 : decide (a926 < 0) = false := decide_eq_false c927
    clear c927
    by_cases c928 : a926 > 4294967295
    · have H := if_yes c928 H
      have c928b0 : decide (4294967295 < a926) = true := decide_eq_true c928
      clear c928
      go_wp2_with fail
      go_ret
      rw [← some_eq H]
      exact ⟨(by first | rfl | (simp [IntKind.wrap_u32]; done)), (HS.out).keep (l := []) (rest := [])⟩
    · have H := if_no c928 H
      have c928b0 : decide (4294967295 < a926) = false := decide_eq_false c928
      clear c928
      go_wp2_with fail
      obtain ⟨t929, HA930, H⟩ := bind_some H
      refine (ground_Ground_all_nil.calls t929 _ ⟨HS.out.begin (l := []) (rest := [])⟩ HA930).mono ?_
      rintro e_ w931 ⟨rfl, hS⟩
      replace HS : Aside0 (Sep (fps []) w [] w931) := ⟨HS.out.call (l := []) (rest := []) hS⟩
      clear hS
      go_wp2_with fail
      obtain ⟨t932, HA933, H⟩ := bind_some H
      refine (store_Store_Put_nil.calls a925 ((a926) % 4294967296) t932 _ ⟨HS.out.begin (l := []) (rest := [])⟩ HA933).mono ?_
      rintro e_ w934 ⟨rfl, hS⟩
      replace HS : Aside0 (Sep (fps []) w [] w934) := ⟨HS.out.call (l := []) (rest := []) hS⟩
      clear hS
      go_wp2_with fail
      go_ret
      rw [← some_eq H]
      exact ⟨(by first | rfl | (simp [IntKind.wrap_u32]; done)), (HS.out).keep (l := []) (rest := [])⟩

set_option maxHeartbeats 30000000 in
set_option maxRecDepth 100000 in
theorem ground_Ground_SetReg_nil.calls (a920 : Int) (a921 : Int) (r : Bool) (w : World)   (HS : Aside0 (Sep (fps []) w [] w)) (H : Aside0 (ground_Ground_SetReg_nil.f a920 a921 = some r)) :
    Calls Try.prog 42 #[.pointer none, .int .i64 a920, .int .i64 a921] w fun e w' => e = .returned (.bool r) ∧ Sep (fps []) w [] w' := by
  unfold ground_Ground_SetReg_nil.f at H
  go_enter Try.func42, Try.ntmps42
  go_wp2_with fail
  obtain ⟨t922, HA923, H⟩ := bind_some H
  refine (ground_reg.calls a920 t922 _ ⟨HS.out.begin (l := []) (rest := [])⟩ HA923).mono ?_
  rintro e_ w924 ⟨rfl, hS⟩
  replace HS : Aside0 (Sep (fps []) w [] w924) := ⟨HS.out.call (l := []) (rest := []) hS⟩
  clear hS
  go_wp2_with fail
  obtain ⟨t935, HA936, H⟩ := bind_some H
  refine (ground_Ground_set_nil.calls t922 a921 t935 _ ⟨HS.out.begin (l := []) (rest := [])⟩ HA936).mono ?_
  rintro e_ w937 ⟨rfl, hS⟩
  replace HS : Aside0 (Sep (fps []) w [] w937) := ⟨HS.out.call (l := []) (rest := []) hS⟩
  clear hS
  go_wp2_with fail
  go_ret
  rw [← some_eq H]
  exact ⟨(by first | rfl | (simp [IntKind.wrap_u32]; done)), (HS.out).keep (l := []) (rest := [])⟩

set_option maxHeartbeats 30000000 in
set_option maxRecDepth 100000 in
theorem chain_Take_nil.calls (a782 : Int) (r : Int × Bool) (w : World)   (HS : Aside0 (Sep (fps []) w [] w)) (H : Aside0 (chain_Take_nil.f a782 = some r)) :
    Calls Try.prog 54 #[.pointer none, .int .i64 a782] w fun e w' => e = .returned (.tuple #[.int .i64 r.1, .bool r.2]) ∧ Sep (fps []) w [] w' := by
  unfold chain_Take_nil.f at H
  go_enter Try.func54, Try.ntmps54
  go_wp2_with fail
  obtain ⟨t797, HA798, H⟩ := bind_some H
  refine (chain_of_nil.calls a782 t797 _ ⟨HS.out.begin (l := []) (rest := [])⟩ HA798).mono ?_
  rintro e_ w799 ⟨rfl, hS⟩
  replace HS : Aside0 (Sep (fps []) w [] w799) := ⟨HS.out.call (l := []) (rest := []) hS⟩
  clear hS
  by_cases c810 : t797.2.2.2 = true
  · have H := if_yes c810 H
    have c810b0 : t797.2.2.2 = true := c810
    have c810b1 : (!t797.2.2.2) = false := by rw [c810b0]; rfl
    try rw [c810b1]
    clear c810
    go_wp2_with (first | ((with_reducible refine gate_dst (N := 6) rfl ?_); refine box_on ?hg (N := 6) ?hd (cs := #[.int .i64 0, .int .i64 0, .int .i64 0]) (t := 134) ?hr ?_; (case hd => rfl); (case hg => rfl); (case hr => first | (go_simp; done) | (go_simp; rfl)); intro g800 hg w801 hbox hb; replace HS : Aside0 (Sep (fps []) w [b8 g800 0 0 0] w801) := ⟨HS.out.box hg hbox hb⟩; clear hg hbox hb; have hc803 : w801.cell? ⟨g800, 0, none⟩ = some (.int .i64 0) := blk_cellv (HS.out.at0) 0 rfl; have hz804 : w801.frozen? ⟨g800, 0, none⟩ = false := blk_fz (HS.out.at0) 0; have hc805 : w801.cell? ⟨g800, 1, none⟩ = some (.int .i64 0) := blk_cellv (HS.out.at0) 1 rfl; have hz806 : w801.frozen? ⟨g800, 1, none⟩ = false := blk_fz (HS.out.at0) 1; have hc807 : w801.cell? ⟨g800, 2, none⟩ = some (.int .i64 0) := blk_cellv (HS.out.at0) 2 rfl; have hz808 : w801.frozen? ⟨g800, 2, none⟩ = false := blk_fz (HS.out.at0) 2) | ((with_reducible refine gate_store (t := 134) (p := 6) rfl ?_); refine store_event (w1 := (World.setCell (World.setCell (World.setCell w801 ⟨g800, 0, none⟩ (.int .i64 t797.1)) ⟨g800, 1, none⟩ (.int .i64 t797.2.1)) ⟨g800, 2, none⟩ (.int .i64 t797.2.2.1))) rfl (t := 134) (p := 6) rfl rfl ?hr ?_; (case hr => first | (go_simp; done) | (go_simp; rfl)); intro w809 hst; clear hc803 hz804 hc805 hz806 hc807 hz808; replace HS : Aside0 (Sep (fps []) w [b8 g800 t797.1 t797.2.1 t797.2.2.1] w809) := ⟨by rw [hst]; exact HS.out.setAll (l1 := []) (l2 := []) [.int .i64 t797.1, .int .i64 t797.2.1, .int .i64 t797.2.2.1] rfl⟩; clear hst; have hc811 : w809.cell? ⟨g800, 0, none⟩ = some (.int .i64 t797.1) := blk_cellv (HS.out.at0) 0 rfl))
    clear hc811
    obtain ⟨t837, HA838, H⟩ := bind_some H
    refine (ground_Ground_Reg_nil.calls t797.1 t837 _ ⟨HS.out.begin (l := []) (rest := [b8 g800 t797.1 t797.2.1 t797.2.2.1])⟩ HA838).mono ?_
    rintro e_ w839 ⟨rfl, hS⟩
    replace HS : Aside0 (Sep (fps []) w [b8 g800 t797.1 t797.2.1 t797.2.2.1] w839) := ⟨HS.out.call (l := []) (rest := [b8 g800 t797.1 t797.2.1 t797.2.2.1]) hS⟩
    clear hS
    by_cases c840 : t837 = 0
    · have H := if_yes c840 H
      have c840b0 : (t837 == 0) = true := beq_iff_eq.mpr c840
      have c840b1 : (t837 != 0) = false := bne_eq_false_iff_eq.mpr c840
      clear c840
      replace HS : Aside0 (Sep (fps []) w [] w839) := ⟨HS.out.sub (.cons _ .slnil)⟩
      go_wp2_with fail
      go_ret2
      rw [← some_eq H]
      exact ⟨(by first | rfl | (simp [IntKind.wrap_u32]; done)), (HS.out).keep (l := []) (rest := [])⟩
    · have H := if_no c840 H
      have c840b0 : (t837 == 0) = false := beq_eq_false_iff_ne.mpr c840
      have c840b1 : (t837 != 0) = true := bne_iff_ne.mpr c840
      clear c840
      go_wp2_with fail
      obtain ⟨t895, HA896, H⟩ := bind_some H
      refine (ground_Ground_Word_nil.calls (wrap64 (t837 - 1)) 5 t895 _ ⟨HS.out.begin (l := []) (rest := [b8 g800 t797.1 t797.2.1 t797.2.2.1])⟩ HA896).mono ?_
      rintro e_ w897 ⟨rfl, hS⟩
      replace HS : Aside0 (Sep (fps []) w [b8 g800 t797.1 t797.2.1 t797.2.2.1] w897) := ⟨HS.out.call (l := []) (rest := [b8 g800 t797.1 t797.2.1 t797.2.2.1]) hS⟩
      clear hS
      go_wp2_with fail
      obtain ⟨t916, HA917, H⟩ := bind_some H
      refine (ground_Ground_SetWord_nil.calls (wrap64 (t837 - 1)) 5 0 t916 _ ⟨HS.out.begin (l := []) (rest := [b8 g800 t797.1 t797.2.1 t797.2.2.1])⟩ HA917).mono ?_
      rintro e_ w918 ⟨rfl, hS⟩
      replace HS : Aside0 (Sep (fps []) w [b8 g800 t797.1 t797.2.1 t797.2.2.1] w918) := ⟨HS.out.call (l := []) (rest := [b8 g800 t797.1 t797.2.1 t797.2.2.1]) hS⟩
      clear hS
      have hc919 : w918.cell? ⟨g800, 0, none⟩ = some (.int .i64 t797.1) := blk_cellv (HS.out.at0) 0 rfl
      go_wp2_with fail
      clear hc919
      obtain ⟨t938, HA939, H⟩ := bind_some H
      refine (ground_Ground_SetReg_nil.calls t797.1 (wrap64 (t895)) t938 _ ⟨HS.out.begin (l := []) (rest := [b8 g800 t797.1 t797.2.1 t797.2.2.1])⟩ HA939).mono ?_
      rintro e_ w940 ⟨rfl, hS⟩
      replace HS : Aside0 (Sep (fps []) w [b8 g800 t797.1 t797.2.1 t797.2.2.1] w940) := ⟨HS.out.call (l := []) (rest := [b8 g800 t797.1 t797.2.1 t797.2.2.1]) hS⟩
      clear hS
      by_cases c941 : (wrap64 (t895)) = 0
      · have H := if_yes c941 H
        have c941b0 : ((wrap64 (t895)) == 0) = true := beq_iff_eq.mpr c941
        have c941b1 : ((wrap64 (t895)) != 0) = false := bne_eq_false_iff_eq.mpr c941
        clear c941
        have hc942 : w940.cell? ⟨g800, 1, none⟩ = some (.int .i64 t797.2.1) := blk_cellv (HS.out.at0) 1 rfl
        go_wp2_with fail
        clear hc942
        obtain ⟨t943, HA944, H⟩ := bind_some H
        refine (ground_Ground_SetReg_nil.calls t797.2.1 0 t943 _ ⟨HS.out.begin (l := []) (rest := [b8 g800 t797.1 t797.2.1 t797.2.2.1])⟩ HA944).mono ?_
        rintro e_ w945 ⟨rfl, hS⟩
        replace HS : Aside0 (Sep (fps []) w [b8 g800 t797.1 t797.2.1 t797.2.2.1] w945) := ⟨HS.out.call (l := []) (rest := [b8 g800 t797.1 t797.2.1 t797.2.2.1]) hS⟩
        clear hS
        go_wp2_with fail
        refine start_ (n := 9) (S := (fun w' => w'.cell? ⟨g800, 2, none⟩ = some (.int .i64 t797.2.2.1))) (ds := []) #[false, false, false, false, false, false, false, false, false] (by kernel_rfl) rfl rfl (blk_cellv ((HS.out.drew).at0) 2 rfl) (fun hHeld => ?_)
        have HS_ := Aside0.mk HS.out.drew
        clear HS
        generalize World.drew _ = w947 at HS_ hHeld ⊢
        have HS := HS_
        clear HS_
        refine pure_ (i := 0) (N := some 44) (v := ?_) (a' := ?_) #[true, false, false, false, false, false, false, false, false] rfl rfl (by kernel_rfl) (fun _ _ _ h => h) (Or.inl ⟨by rfl, ?_⟩) ?_ ?_
        rotate_left
        · intro w'
          go_simp
          with_reducible rfl
        rotate_left
        · simp only [Act.put, List.setIfInBounds_toArray, List.set_cons_zero, List.set_cons_succ, i64_w, i32_w]
          rfl
        refine pure_ (i := 1) (N := some 45) (v := ?_) (a' := ?_) #[true, true, false, false, false, false, false, false, false] rfl rfl (by kernel_rfl) (fun _ _ _ h => h) (Or.inl ⟨by rfl, ?_⟩) ?_ ?_
        rotate_left
        · intro w'
          go_simp
          with_reducible rfl
        rotate_left
        · simp only [Act.put, List.setIfInBounds_toArray, List.set_cons_zero, List.set_cons_succ, i64_w, i32_w]
          rfl
        refine pure_ (i := 3) (N := some 47) (v := ?_) (a' := ?_) #[true, true, false, true, false, false, false, false, false] rfl rfl (by kernel_rfl) (fun _ _ _ h => h) (Or.inl ⟨by rfl, ?_⟩) ?_ ?_
        rotate_left
        · intro w'
          go_simp
          with_reducible rfl
        rotate_left
        · simp only [Act.put, List.setIfInBounds_toArray, List.set_cons_zero, List.set_cons_succ, i64_w, i32_w]
          rfl
        refine pure_ (i := 4) (N := some 48) (v := ?_) (a' := ?_) #[true, true, false, true, true, false, false, false, false] rfl rfl (by kernel_rfl) (fun _ _ _ h => h) (Or.inl ⟨by rfl, ?_⟩) ?_ ?_
        rotate_left
        · intro w'
          go_simp
          with_reducible rfl
        rotate_left
        · simp only [Act.put, List.setIfInBounds_toArray, List.set_cons_zero, List.set_cons_succ, i64_w, i32_w]
          rfl
        refine take_ (i := 2) (N := some 46) (v := ?_) (a' := ?_) #[true, true, true, true, true, false, false, false, false] rfl rfl (by kernel_rfl) (fun _ _ _ h => h) (Or.inl ⟨by rfl, ?_⟩) hHeld ?_ ?_
        rotate_left
        · rintro w' hS'
          have s0 := hS'
          go_simp
          with_reducible rfl
        rotate_left
        · simp only [Act.put, List.setIfInBounds_toArray, List.set_cons_zero, List.set_cons_succ, i64_w, i32_w]
          rfl
        refine take_ (i := 5) (N := some 49) (v := ?_) (a' := ?_) #[true, true, true, true, true, true, false, false, false] rfl rfl (by kernel_rfl) (fun _ _ _ h => h) (Or.inl ⟨by rfl, ?_⟩) hHeld ?_ ?_
        rotate_left
        · rintro w' hS'
          have s0 := hS'
          go_simp
          with_reducible rfl
        rotate_left
        · simp only [Act.put, List.setIfInBounds_toArray, List.set_cons_zero, List.set_cons_succ, i64_w, i32_w]
          rfl
        refine one_ (i := 6) (N := some 50) #[true, true, true, true, true, true, true, false, false] rfl rfl (by kernel_rfl) (by decide) (fun K hK => ?_)
        obtain ⟨t948, HA949, H⟩ := bind_some H
        refine goes_ Try.func36 (by kernel_rfl) rfl #[.pointer none, .int .i64 t797.2.2.1] (by rfl) rfl rfl (by (try simp only [List.map_toArray, List.map_cons, List.map_nil]); first | done | rfl) ?_
        refine (ground_Ground_Reg_nil.calls t797.2.2.1 t948 _ ⟨HS.out.begin (l := []) (rest := [b8 g800 t797.1 t797.2.1 t797.2.2.1])⟩ HA949).mono ?_
        rintro e_ w950 ⟨rfl, hS⟩
        replace HS : Aside0 (Sep (fps []) w [b8 g800 t797.1 t797.2.1 t797.2.2.1] w950) := ⟨HS.out.call (l := []) (rest := [b8 g800 t797.1 t797.2.1 t797.2.2.1]) hS⟩
        clear hS
        refine ⟨_, rfl, ?_⟩
        refine hK.out _ _ (blk_cellv (HS.out.at0) 2 rfl) (fun hHeld => ?_)
        clear hK K
        refine norm_ (a' := ?_) ?_ ?_
        rotate_left
        · show Act.put _ (some 50) _ = _
          simp only [Act.put, List.setIfInBounds_toArray, List.set_cons_zero, List.set_cons_succ, i64_w, i32_w]
          rfl
        refine pure_ (i := 7) (N := some 51) (v := ?_) (a' := ?_) #[true, true, true, true, true, true, true, true, false] rfl rfl (by kernel_rfl) (fun _ _ _ h => h) (Or.inl ⟨by rfl, ?_⟩) ?_ ?_
        rotate_left
        · intro w'
          go_simp
          with_reducible rfl
        rotate_left
        · simp only [Act.put, List.setIfInBounds_toArray, List.set_cons_zero, List.set_cons_succ, i64_w, i32_w]
          rfl
        refine one_ (i := 8) (N := some 52) #[true, true, true, true, true, true, true, true, true] rfl rfl (by kernel_rfl) (by decide) (fun K hK => ?_)
        obtain ⟨t951, HA952, H⟩ := bind_some H
        refine goes_ Try.func42 (by kernel_rfl) rfl #[.pointer none, .int .i64 t797.2.2.1, .int .i64 (wrap64 (t948 - 1))] (by rfl) rfl rfl (by (try simp only [List.map_toArray, List.map_cons, List.map_nil]); first | done | rfl) ?_
        refine (ground_Ground_SetReg_nil.calls t797.2.2.1 (wrap64 (t948 - 1)) t951 _ ⟨HS.out.begin (l := []) (rest := [b8 g800 t797.1 t797.2.1 t797.2.2.1])⟩ HA952).mono ?_
        rintro e_ w953 ⟨rfl, hS⟩
        replace HS : Aside0 (Sep (fps []) w [b8 g800 t797.1 t797.2.1 t797.2.2.1] w953) := ⟨HS.out.call (l := []) (rest := [b8 g800 t797.1 t797.2.1 t797.2.2.1]) hS⟩
        clear hS
        refine ⟨_, rfl, ?_⟩
        refine hK.out _ _ (blk_cellv (HS.out.at0) 2 rfl) (fun hHeld => ?_)
        clear hK K
        refine norm_ (a' := ?_) ?_ ?_
        rotate_left
        · show Act.put _ (some 52) _ = _
          simp only [Act.put, List.setIfInBounds_toArray, List.set_cons_zero, List.set_cons_succ, i64_w, i32_w]
          rfl
        refine done_ (by kernel_rfl) ?_
        replace HS : Aside0 (Sep (fps []) w [] w953) := ⟨HS.out.sub (.cons _ .slnil)⟩
        go_wp2_with fail
        go_ret2
        rw [← some_eq H]
        exact ⟨(by first | rfl | (simp [IntKind.wrap_u32]; done)), (HS.out).keep (l := []) (rest := [])⟩
      · have H := if_no c941 H
        have c941b0 : ((wrap64 (t895)) == 0) = false := beq_eq_false_iff_ne.mpr c941
        have c941b1 : ((wrap64 (t895)) != 0) = true := bne_iff_ne.mpr c941
        clear c941
        go_wp2_with fail
        refine start_ (n := 9) (S := (fun w' => w'.cell? ⟨g800, 2, none⟩ = some (.int .i64 t797.2.2.1))) (ds := []) #[false, false, false, false, false, false, false, false, false] (by kernel_rfl) rfl rfl (blk_cellv ((HS.out.drew).at0) 2 rfl) (fun hHeld => ?_)
        have HS_ := Aside0.mk HS.out.drew
        clear HS
        generalize World.drew _ = w955 at HS_ hHeld ⊢
        have HS := HS_
        clear HS_
        refine pure_ (i := 0) (N := some 44) (v := ?_) (a' := ?_) #[true, false, false, false, false, false, false, false, false] rfl rfl (by kernel_rfl) (fun _ _ _ h => h) (Or.inl ⟨by rfl, ?_⟩) ?_ ?_
        rotate_left
        · intro w'
          go_simp
          with_reducible rfl
        rotate_left
        · simp only [Act.put, List.setIfInBounds_toArray, List.set_cons_zero, List.set_cons_succ, i64_w, i32_w]
          rfl
        refine pure_ (i := 1) (N := some 45) (v := ?_) (a' := ?_) #[true, true, false, false, false, false, false, false, false] rfl rfl (by kernel_rfl) (fun _ _ _ h => h) (Or.inl ⟨by rfl, ?_⟩) ?_ ?_
        rotate_left
        · intro w'
          go_simp
          with_reducible rfl
        rotate_left
        · simp only [Act.put, List.setIfInBounds_toArray, List.set_cons_zero, List.set_cons_succ, i64_w, i32_w]
          rfl
        refine pure_ (i := 3) (N := some 47) (v := ?_) (a' := ?_) #[true, true, false, true, false, false, false, false, false] rfl rfl (by kernel_rfl) (fun _ _ _ h => h) (Or.inl ⟨by rfl, ?_⟩) ?_ ?_
        rotate_left
        · intro w'
          go_simp
          with_reducible rfl
        rotate_left
        · simp only [Act.put, List.setIfInBounds_toArray, List.set_cons_zero, List.set_cons_succ, i64_w, i32_w]
          rfl
        refine pure_ (i := 4) (N := some 48) (v := ?_) (a' := ?_) #[true, true, false, true, true, false, false, false, false] rfl rfl (by kernel_rfl) (fun _ _ _ h => h) (Or.inl ⟨by rfl, ?_⟩) ?_ ?_
        rotate_left
        · intro w'
          go_simp
          with_reducible rfl
        rotate_left
        · simp only [Act.put, List.setIfInBounds_toArray, List.set_cons_zero, List.set_cons_succ, i64_w, i32_w]
          rfl
        refine take_ (i := 2) (N := some 46) (v := ?_) (a' := ?_) #[true, true, true, true, true, false, false, false, false] rfl rfl (by kernel_rfl) (fun _ _ _ h => h) (Or.inl ⟨by rfl, ?_⟩) hHeld ?_ ?_
        rotate_left
        · rintro w' hS'
          have s0 := hS'
          go_simp
          with_reducible rfl
        rotate_left
        · simp only [Act.put, List.setIfInBounds_toArray, List.set_cons_zero, List.set_cons_succ, i64_w, i32_w]
          rfl
        refine take_ (i := 5) (N := some 49) (v := ?_) (a' := ?_) #[true, true, true, true, true, true, false, false, false] rfl rfl (by kernel_rfl) (fun _ _ _ h => h) (Or.inl ⟨by rfl, ?_⟩) hHeld ?_ ?_
        rotate_left
        · rintro w' hS'
          have s0 := hS'
          go_simp
          with_reducible rfl
        rotate_left
        · simp only [Act.put, List.setIfInBounds_toArray, List.set_cons_zero, List.set_cons_succ, i64_w, i32_w]
          rfl
        refine one_ (i := 6) (N := some 50) #[true, true, true, true, true, true, true, false, false] rfl rfl (by kernel_rfl) (by decide) (fun K hK => ?_)
        obtain ⟨t948, HA956, H⟩ := bind_some H
        refine goes_ Try.func36 (by kernel_rfl) rfl #[.pointer none, .int .i64 t797.2.2.1] (by rfl) rfl rfl (by (try simp only [List.map_toArray, List.map_cons, List.map_nil]); first | done | rfl) ?_
        refine (ground_Ground_Reg_nil.calls t797.2.2.1 t948 _ ⟨HS.out.begin (l := []) (rest := [b8 g800 t797.1 t797.2.1 t797.2.2.1])⟩ HA956).mono ?_
        rintro e_ w957 ⟨rfl, hS⟩
        replace HS : Aside0 (Sep (fps []) w [b8 g800 t797.1 t797.2.1 t797.2.2.1] w957) := ⟨HS.out.call (l := []) (rest := [b8 g800 t797.1 t797.2.1 t797.2.2.1]) hS⟩
        clear hS
        refine ⟨_, rfl, ?_⟩
        refine hK.out _ _ (blk_cellv (HS.out.at0) 2 rfl) (fun hHeld => ?_)
        clear hK K
        refine norm_ (a' := ?_) ?_ ?_
        rotate_left
        · show Act.put _ (some 50) _ = _
          simp only [Act.put, List.setIfInBounds_toArray, List.set_cons_zero, List.set_cons_succ, i64_w, i32_w]
          rfl
        refine pure_ (i := 7) (N := some 51) (v := ?_) (a' := ?_) #[true, true, true, true, true, true, true, true, false] rfl rfl (by kernel_rfl) (fun _ _ _ h => h) (Or.inl ⟨by rfl, ?_⟩) ?_ ?_
        rotate_left
        · intro w'
          go_simp
          with_reducible rfl
        rotate_left
        · simp only [Act.put, List.setIfInBounds_toArray, List.set_cons_zero, List.set_cons_succ, i64_w, i32_w]
          rfl
        refine one_ (i := 8) (N := some 52) #[true, true, true, true, true, true, true, true, true] rfl rfl (by kernel_rfl) (by decide) (fun K hK => ?_)
        obtain ⟨t951, HA958, H⟩ := bind_some H
        refine goes_ Try.func42 (by kernel_rfl) rfl #[.pointer none, .int .i64 t797.2.2.1, .int .i64 (wrap64 (t948 - 1))] (by rfl) rfl rfl (by (try simp only [List.map_toArray, List.map_cons, List.map_nil]); first | done | rfl) ?_
        refine (ground_Ground_SetReg_nil.calls t797.2.2.1 (wrap64 (t948 - 1)) t951 _ ⟨HS.out.begin (l := []) (rest := [b8 g800 t797.1 t797.2.1 t797.2.2.1])⟩ HA958).mono ?_
        rintro e_ w959 ⟨rfl, hS⟩
        replace HS : Aside0 (Sep (fps []) w [b8 g800 t797.1 t797.2.1 t797.2.2.1] w959) := ⟨HS.out.call (l := []) (rest := [b8 g800 t797.1 t797.2.1 t797.2.2.1]) hS⟩
        clear hS
        refine ⟨_, rfl, ?_⟩
        refine hK.out _ _ (blk_cellv (HS.out.at0) 2 rfl) (fun hHeld => ?_)
        clear hK K
        refine norm_ (a' := ?_) ?_ ?_
        rotate_left
        · show Act.put _ (some 52) _ = _
          simp only [Act.put, List.setIfInBounds_toArray, List.set_cons_zero, List.set_cons_succ, i64_w, i32_w]
          rfl
        refine done_ (by kernel_rfl) ?_
        replace HS : Aside0 (Sep (fps []) w [] w959) := ⟨HS.out.sub (.cons _ .slnil)⟩
        go_wp2_with fail
        go_ret2
        rw [← some_eq H]
        exact ⟨(by first | rfl | (simp [IntKind.wrap_u32]; done)), (HS.out).keep (l := []) (rest := [])⟩
  · have H := if_no c810 H
    have c810b0 : t797.2.2.2 = false := by simpa using c810
    have c810b1 : (!t797.2.2.2) = true := by rw [c810b0]; rfl
    try rw [c810b1]
    clear c810
    go_wp2_with (first | ((with_reducible refine gate_dst (N := 6) rfl ?_); refine box_on ?hg (N := 6) ?hd (cs := #[.int .i64 0, .int .i64 0, .int .i64 0]) (t := 134) ?hr ?_; (case hd => rfl); (case hg => rfl); (case hr => first | (go_simp; done) | (go_simp; rfl)); intro g800 hg w801 hbox hb; replace HS : Aside0 (Sep (fps []) w [b8 g800 0 0 0] w801) := ⟨HS.out.box hg hbox hb⟩; clear hg hbox hb; have hc803 : w801.cell? ⟨g800, 0, none⟩ = some (.int .i64 0) := blk_cellv (HS.out.at0) 0 rfl; have hz804 : w801.frozen? ⟨g800, 0, none⟩ = false := blk_fz (HS.out.at0) 0; have hc805 : w801.cell? ⟨g800, 1, none⟩ = some (.int .i64 0) := blk_cellv (HS.out.at0) 1 rfl; have hz806 : w801.frozen? ⟨g800, 1, none⟩ = false := blk_fz (HS.out.at0) 1; have hc807 : w801.cell? ⟨g800, 2, none⟩ = some (.int .i64 0) := blk_cellv (HS.out.at0) 2 rfl; have hz808 : w801.frozen? ⟨g800, 2, none⟩ = false := blk_fz (HS.out.at0) 2) | ((with_reducible refine gate_store (t := 134) (p := 6) rfl ?_); refine store_event (w1 := (World.setCell (World.setCell (World.setCell w801 ⟨g800, 0, none⟩ (.int .i64 t797.1)) ⟨g800, 1, none⟩ (.int .i64 t797.2.1)) ⟨g800, 2, none⟩ (.int .i64 t797.2.2.1))) rfl (t := 134) (p := 6) rfl rfl ?hr ?_; (case hr => first | (go_simp; done) | (go_simp; rfl)); intro w809 hst; clear hc803 hz804 hc805 hz806 hc807 hz808; replace HS : Aside0 (Sep (fps []) w [b8 g800 t797.1 t797.2.1 t797.2.2.1] w809) := ⟨by rw [hst]; exact HS.out.setAll (l1 := []) (l2 := []) [.int .i64 t797.1, .int .i64 t797.2.1, .int .i64 t797.2.2.1] rfl⟩; clear hst; replace HS : Aside0 (Sep (fps []) w [] w809) := ⟨HS.out.sub (.cons _ .slnil)⟩))
    go_ret2
    rw [← some_eq H]
    exact ⟨(by first | rfl | (simp [IntKind.wrap_u32]; done)), (HS.out).keep (l := []) (rest := [])⟩

set_option maxHeartbeats 30000000 in
set_option maxRecDepth 100000 in
theorem chain_First_nil.calls (a963 : Int) (r : Int × Bool) (w : World)   (HS : Aside0 (Sep (fps []) w [] w)) (H : Aside0 (chain_First_nil.f a963 = some r)) :
    Calls Try.prog 57 #[.pointer none, .int .i64 a963] w fun e w' => e = .returned (.tuple #[.int .i64 r.1, .bool r.2]) ∧ Sep (fps []) w [] w' := by
  unfold chain_First_nil.f at H
  go_enter Try.func57, Try.ntmps57
  go_wp2_with fail
  obtain ⟨t964, HA965, H⟩ := bind_some H
  refine (chain_of_nil.calls a963 t964 _ ⟨HS.out.begin (l := []) (rest := [])⟩ HA965).mono ?_
  rintro e_ w966 ⟨rfl, hS⟩
  replace HS : Aside0 (Sep (fps []) w [] w966) := ⟨HS.out.call (l := []) (rest := []) hS⟩
  clear hS
  by_cases c977 : t964.2.2.2 = true
  · have H := if_yes c977 H
    have c977b0 : t964.2.2.2 = true := c977
    have c977b1 : (!t964.2.2.2) = false := by rw [c977b0]; rfl
    try rw [c977b1]
    clear c977
    go_wp2_with (first | ((with_reducible refine gate_dst (N := 6) rfl ?_); refine box_on ?hg (N := 6) ?hd (cs := #[.int .i64 0, .int .i64 0, .int .i64 0]) (t := 134) ?hr ?_; (case hd => rfl); (case hg => rfl); (case hr => first | (go_simp; done) | (go_simp; rfl)); intro g967 hg w968 hbox hb; replace HS : Aside0 (Sep (fps []) w [b8 g967 0 0 0] w968) := ⟨HS.out.box hg hbox hb⟩; clear hg hbox hb; have hc970 : w968.cell? ⟨g967, 0, none⟩ = some (.int .i64 0) := blk_cellv (HS.out.at0) 0 rfl; have hz971 : w968.frozen? ⟨g967, 0, none⟩ = false := blk_fz (HS.out.at0) 0; have hc972 : w968.cell? ⟨g967, 1, none⟩ = some (.int .i64 0) := blk_cellv (HS.out.at0) 1 rfl; have hz973 : w968.frozen? ⟨g967, 1, none⟩ = false := blk_fz (HS.out.at0) 1; have hc974 : w968.cell? ⟨g967, 2, none⟩ = some (.int .i64 0) := blk_cellv (HS.out.at0) 2 rfl; have hz975 : w968.frozen? ⟨g967, 2, none⟩ = false := blk_fz (HS.out.at0) 2) | ((with_reducible refine gate_store (t := 134) (p := 6) rfl ?_); refine store_event (w1 := (World.setCell (World.setCell (World.setCell w968 ⟨g967, 0, none⟩ (.int .i64 t964.1)) ⟨g967, 1, none⟩ (.int .i64 t964.2.1)) ⟨g967, 2, none⟩ (.int .i64 t964.2.2.1))) rfl (t := 134) (p := 6) rfl rfl ?hr ?_; (case hr => first | (go_simp; done) | (go_simp; rfl)); intro w976 hst; clear hc970 hz971 hc972 hz973 hc974 hz975; replace HS : Aside0 (Sep (fps []) w [b8 g967 t964.1 t964.2.1 t964.2.2.1] w976) := ⟨by rw [hst]; exact HS.out.setAll (l1 := []) (l2 := []) [.int .i64 t964.1, .int .i64 t964.2.1, .int .i64 t964.2.2.1] rfl⟩; clear hst; have hc978 : w976.cell? ⟨g967, 0, none⟩ = some (.int .i64 t964.1) := blk_cellv (HS.out.at0) 0 rfl))
    clear hc978
    obtain ⟨t979, HA980, H⟩ := bind_some H
    refine (ground_Ground_Reg_nil.calls t964.1 t979 _ ⟨HS.out.begin (l := []) (rest := [b8 g967 t964.1 t964.2.1 t964.2.2.1])⟩ HA980).mono ?_
    rintro e_ w981 ⟨rfl, hS⟩
    replace HS : Aside0 (Sep (fps []) w [b8 g967 t964.1 t964.2.1 t964.2.2.1] w981) := ⟨HS.out.call (l := []) (rest := [b8 g967 t964.1 t964.2.1 t964.2.2.1]) hS⟩
    clear hS
    by_cases c982 : (wrap64 (t979 - 1)) < 0
    · have H := if_yes c982 H
      have c982b0 : decide ((wrap64 (t979 - 1)) < 0) = true := decide_eq_true c982
      replace HS : Aside0 (Sep (fps []) w [] w981) := ⟨HS.out.sub (.cons _ .slnil)⟩
      skip
      go_wp2_with fail
      clear c982
      go_ret2
      rw [← some_eq H]
      exact ⟨(by first | rfl | (simp [IntKind.wrap_u32]; done)), (HS.out).keep (l := []) (rest := [])⟩
    · have H := if_no c982 H
      have c982b0 : decide ((wrap64 (t979 - 1)) < 0) = false := decide_eq_false c982
      replace HS : Aside0 (Sep (fps []) w [] w981) := ⟨HS.out.sub (.cons _ .slnil)⟩
      skip
      go_wp2_with fail
      clear c982
      go_ret2
      rw [← some_eq H]
      exact ⟨(by first | rfl | (simp [IntKind.wrap_u32]; done)), (HS.out).keep (l := []) (rest := [])⟩
  · have H := if_no c977 H
    have c977b0 : t964.2.2.2 = false := by simpa using c977
    have c977b1 : (!t964.2.2.2) = true := by rw [c977b0]; rfl
    try rw [c977b1]
    clear c977
    go_wp2_with (first | ((with_reducible refine gate_dst (N := 6) rfl ?_); refine box_on ?hg (N := 6) ?hd (cs := #[.int .i64 0, .int .i64 0, .int .i64 0]) (t := 134) ?hr ?_; (case hd => rfl); (case hg => rfl); (case hr => first | (go_simp; done) | (go_simp; rfl)); intro g967 hg w968 hbox hb; replace HS : Aside0 (Sep (fps []) w [b8 g967 0 0 0] w968) := ⟨HS.out.box hg hbox hb⟩; clear hg hbox hb; have hc970 : w968.cell? ⟨g967, 0, none⟩ = some (.int .i64 0) := blk_cellv (HS.out.at0) 0 rfl; have hz971 : w968.frozen? ⟨g967, 0, none⟩ = false := blk_fz (HS.out.at0) 0; have hc972 : w968.cell? ⟨g967, 1, none⟩ = some (.int .i64 0) := blk_cellv (HS.out.at0) 1 rfl; have hz973 : w968.frozen? ⟨g967, 1, none⟩ = false := blk_fz (HS.out.at0) 1; have hc974 : w968.cell? ⟨g967, 2, none⟩ = some (.int .i64 0) := blk_cellv (HS.out.at0) 2 rfl; have hz975 : w968.frozen? ⟨g967, 2, none⟩ = false := blk_fz (HS.out.at0) 2) | ((with_reducible refine gate_store (t := 134) (p := 6) rfl ?_); refine store_event (w1 := (World.setCell (World.setCell (World.setCell w968 ⟨g967, 0, none⟩ (.int .i64 t964.1)) ⟨g967, 1, none⟩ (.int .i64 t964.2.1)) ⟨g967, 2, none⟩ (.int .i64 t964.2.2.1))) rfl (t := 134) (p := 6) rfl rfl ?hr ?_; (case hr => first | (go_simp; done) | (go_simp; rfl)); intro w976 hst; clear hc970 hz971 hc972 hz973 hc974 hz975; replace HS : Aside0 (Sep (fps []) w [b8 g967 t964.1 t964.2.1 t964.2.2.1] w976) := ⟨by rw [hst]; exact HS.out.setAll (l1 := []) (l2 := []) [.int .i64 t964.1, .int .i64 t964.2.1, .int .i64 t964.2.2.1] rfl⟩; clear hst; replace HS : Aside0 (Sep (fps []) w [] w976) := ⟨HS.out.sub (.cons _ .slnil)⟩))
    go_ret2
    rw [← some_eq H]
    exact ⟨(by first | rfl | (simp [IntKind.wrap_u32]; done)), (HS.out).keep (l := []) (rest := [])⟩

set_option maxHeartbeats 30000000 in
set_option maxRecDepth 100000 in
theorem chain_Push_1.calls (a1030 : Int) (a1031 : Int) (a1032 : Int) (a1033 : Int) (a1034 : Int) (a1039 : Int) (g1036 : Nat) (g1038 : Nat) (r : Unit) (w : World)   (HS : Aside0 (Sep (fps [b9 g1036, b10 g1038 a1039]) w [b9 g1036, b10 g1038 a1039] w)) (H : Aside0 (chain_Push_1.f a1030 a1031 a1032 a1033 a1034 a1039 = some r)) :
    Calls Try.prog 90 #[.agg #[.int .i64 a1030, .int .i64 a1031, .int .i64 a1032], .int .i64 a1033, .int .i64 a1034, .pointer (some ⟨g1036, 0, none⟩), .pointer (some ⟨g1038, 0, none⟩)] w fun e w' => e = .returned (.tuple #[]) ∧ Sep (fps [b9 g1036, b10 g1038 a1039]) w [b9 g1036, b10 g1038 a1039] w' := by
  generalize (fps [b9 g1036, b10 g1038 a1039]) = FF at HS ⊢
  unfold chain_Push_1.f at H
  go_enter Try.func90, Try.ntmps90
  go_wp2_with (first | ((with_reducible refine gate_dst (N := 5) rfl ?_); refine box_on ?hg (N := 5) ?hd (cs := #[.int .i64 a1030, .int .i64 a1031, .int .i64 a1032]) (t := 134) ?hr ?_; (case hd => rfl); (case hg => rfl); (case hr => first | (go_simp; done) | (go_simp; rfl)); intro g1040 hg w1041 hbox hb; replace HS : Aside0 (Sep FF w [b9 g1036, b10 g1038 a1039, b8 g1040 a1030 a1031 a1032] w1041) := ⟨HS.out.box hg hbox hb⟩; clear hg hbox hb))
  refine start_ (n := 8) (S := (fun w' => w'.cell? ⟨g1036, 0, none⟩ = some (.pointer none) ∧ w'.cell? ⟨g1038, 0, none⟩ = some (.int .i64 a1039) ∧ w'.cell? ⟨g1040, 0, none⟩ = some (.int .i64 a1030))) (ds := []) #[false, false, false, false, false, false, false, false] (by kernel_rfl) rfl rfl (⟨blk_cellv ((HS.out.drew).at0) 0 rfl, blk_cellv ((HS.out.drew).at1) 0 rfl, blk_cellv ((HS.out.drew).at2) 0 rfl⟩) (fun hHeld => ?_)
  have HS_ := Aside0.mk HS.out.drew
  clear HS
  generalize World.drew _ = w1044 at HS_ hHeld ⊢
  have HS := HS_
  clear HS_
  refine pure_ (i := 3) (N := some 11) (v := ?_) (a' := ?_) #[false, false, false, true, false, false, false, false] rfl rfl (by kernel_rfl) (fun _ _ _ h => h) (Or.inl ⟨by rfl, ?_⟩) ?_ ?_
  rotate_left
  · intro w'
    go_simp
    with_reducible rfl
  rotate_left
  · simp only [Act.put, List.setIfInBounds_toArray, List.set_cons_zero, List.set_cons_succ, i64_w, i32_w]
    rfl
  refine take_ (i := 0) (N := some 8) (v := ?_) (a' := ?_) #[true, false, false, true, false, false, false, false] rfl rfl (by kernel_rfl) (fun _ _ _ h => h) (Or.inl ⟨by rfl, ?_⟩) hHeld ?_ ?_
  rotate_left
  · rintro w' hS'
    obtain ⟨s0, s1, s2⟩ := hS'
    go_simp
    with_reducible rfl
  rotate_left
  · simp only [Act.put, List.setIfInBounds_toArray, List.set_cons_zero, List.set_cons_succ, i64_w, i32_w]
    rfl
  refine take_ (i := 1) (N := some 9) (v := ?_) (a' := ?_) #[true, true, false, true, false, false, false, false] rfl rfl (by kernel_rfl) (fun _ _ _ h => h) (Or.inl ⟨by rfl, ?_⟩) hHeld ?_ ?_
  rotate_left
  · rintro w' hS'
    obtain ⟨s0, s1, s2⟩ := hS'
    go_simp
    with_reducible rfl
  rotate_left
  · simp only [Act.put, List.setIfInBounds_toArray, List.set_cons_zero, List.set_cons_succ, i64_w, i32_w]
    rfl
  refine take_ (i := 2) (N := some 10) (v := ?_) (a' := ?_) #[true, true, true, true, false, false, false, false] rfl rfl (by kernel_rfl) (fun _ _ _ h => h) (Or.inl ⟨by rfl, ?_⟩) hHeld ?_ ?_
  rotate_left
  · rintro w' hS'
    obtain ⟨s0, s1, s2⟩ := hS'
    go_simp
    with_reducible rfl
  rotate_left
  · simp only [Act.put, List.setIfInBounds_toArray, List.set_cons_zero, List.set_cons_succ, i64_w, i32_w]
    rfl
  refine take_ (i := 4) (N := some 12) (v := ?_) (a' := ?_) #[true, true, true, true, true, false, false, false] rfl rfl (by kernel_rfl) (fun _ _ _ h => h) (Or.inl ⟨by rfl, ?_⟩) hHeld ?_ ?_
  rotate_left
  · rintro w' hS'
    obtain ⟨s0, s1, s2⟩ := hS'
    go_simp
    with_reducible rfl
  rotate_left
  · simp only [Act.put, List.setIfInBounds_toArray, List.set_cons_zero, List.set_cons_succ, i64_w, i32_w]
    rfl
  refine one_ (i := 5) (N := some 13) #[true, true, true, true, true, true, false, false] rfl rfl (by kernel_rfl) (by decide) (fun K hK => ?_)
  obtain ⟨t1045, HA1046, H⟩ := bind_some H
  refine goes_ Try.func36 (by kernel_rfl) rfl #[.pointer none, .int .i64 a1030] (by rfl) rfl rfl (by (try simp only [List.map_toArray, List.map_cons, List.map_nil]); first | done | rfl) ?_
  refine (ground_Ground_Reg_nil.calls a1030 t1045 _ ⟨HS.out.begin (l := []) (rest := [b9 g1036, b10 g1038 a1039, b8 g1040 a1030 a1031 a1032])⟩ HA1046).mono ?_
  rintro e_ w1047 ⟨rfl, hS⟩
  replace HS : Aside0 (Sep FF w [b9 g1036, b10 g1038 a1039, b8 g1040 a1030 a1031 a1032] w1047) := ⟨HS.out.call (l := []) (rest := [b9 g1036, b10 g1038 a1039, b8 g1040 a1030 a1031 a1032]) hS⟩
  clear hS
  refine ⟨_, rfl, ?_⟩
  refine hK.out _ _ (⟨blk_cellv (HS.out.at0) 0 rfl, blk_cellv (HS.out.at1) 0 rfl, blk_cellv (HS.out.at2) 0 rfl⟩) (fun hHeld => ?_)
  clear hK K
  refine norm_ (a' := ?_) ?_ ?_
  rotate_left
  · show Act.put _ (some 13) _ = _
    simp only [Act.put, List.setIfInBounds_toArray, List.set_cons_zero, List.set_cons_succ, i64_w, i32_w]
    rfl
  refine pure_ (i := 6) (N := some 14) (v := ?_) (a' := ?_) #[true, true, true, true, true, true, true, false] rfl rfl (by kernel_rfl) (fun _ _ _ h => h) (Or.inl ⟨by rfl, ?_⟩) ?_ ?_
  rotate_left
  · intro w'
    go_simp
    with_reducible rfl
  rotate_left
  · simp only [Act.put, List.setIfInBounds_toArray, List.set_cons_zero, List.set_cons_succ, i64_w, i32_w]
    rfl
  refine one_ (i := 7) (N := some 15) #[true, true, true, true, true, true, true, true] rfl rfl (by kernel_rfl) (by decide) (fun K hK => ?_)
  obtain ⟨t1048, HA1049, H⟩ := bind_some H
  refine goes_ Try.func46 (by kernel_rfl) rfl #[.pointer none, .int .i64 a1039, .int .i64 5, .int .u32 ((t1045) % 4294967296)] (by rfl) rfl rfl (by (try simp only [List.map_toArray, List.map_cons, List.map_nil]); first | done | rfl) ?_
  refine (ground_Ground_SetWord_nil.calls a1039 5 ((t1045) % 4294967296) t1048 _ ⟨HS.out.begin (l := []) (rest := [b9 g1036, b10 g1038 a1039, b8 g1040 a1030 a1031 a1032])⟩ HA1049).mono ?_
  rintro e_ w1050 ⟨rfl, hS⟩
  replace HS : Aside0 (Sep FF w [b9 g1036, b10 g1038 a1039, b8 g1040 a1030 a1031 a1032] w1050) := ⟨HS.out.call (l := []) (rest := [b9 g1036, b10 g1038 a1039, b8 g1040 a1030 a1031 a1032]) hS⟩
  clear hS
  refine ⟨_, rfl, ?_⟩
  refine hK.out _ _ (⟨blk_cellv (HS.out.at0) 0 rfl, blk_cellv (HS.out.at1) 0 rfl, blk_cellv (HS.out.at2) 0 rfl⟩) (fun hHeld => ?_)
  clear hK K
  refine norm_ (a' := ?_) ?_ ?_
  rotate_left
  · show Act.put _ (some 15) _ = _
    simp only [Act.put, List.setIfInBounds_toArray, List.set_cons_zero, List.set_cons_succ, i64_w, i32_w]
    rfl
  refine done_ (by kernel_rfl) ?_
  have hc1051 : w1050.cell? ⟨g1036, 0, none⟩ = some (.pointer none) := blk_cellv (HS.out.at0) 0 rfl
  have hc1052 : w1050.cell? ⟨g1040, 0, none⟩ = some (.int .i64 a1030) := blk_cellv (HS.out.at2) 0 rfl
  go_wp2_with fail
  clear hc1051 hc1052
  obtain ⟨t1053, HA1054, H⟩ := bind_some H
  refine (ground_Ground_SetReg_nil.calls a1030 a1033 t1053 _ ⟨HS.out.begin (l := []) (rest := [b9 g1036, b10 g1038 a1039, b8 g1040 a1030 a1031 a1032])⟩ HA1054).mono ?_
  rintro e_ w1055 ⟨rfl, hS⟩
  replace HS : Aside0 (Sep FF w [b9 g1036, b10 g1038 a1039, b8 g1040 a1030 a1031 a1032] w1055) := ⟨HS.out.call (l := []) (rest := [b9 g1036, b10 g1038 a1039, b8 g1040 a1030 a1031 a1032]) hS⟩
  clear hS
  by_cases c1056 : a1034 = 0
  · have H := if_yes c1056 H
    have c1056b0 : (a1034 == 0) = true := beq_iff_eq.mpr c1056
    have c1056b1 : (a1034 != 0) = false := bne_eq_false_iff_eq.mpr c1056
    clear c1056
    have hc1057 : w1055.cell? ⟨g1036, 0, none⟩ = some (.pointer none) := blk_cellv (HS.out.at0) 0 rfl
    have hc1058 : w1055.cell? ⟨g1040, 1, none⟩ = some (.int .i64 a1031) := blk_cellv (HS.out.at2) 1 rfl
    go_wp2_with fail
    clear hc1057 hc1058
    obtain ⟨t1059, HA1060, H⟩ := bind_some H
    refine (ground_Ground_SetReg_nil.calls a1031 a1033 t1059 _ ⟨HS.out.begin (l := []) (rest := [b9 g1036, b10 g1038 a1039, b8 g1040 a1030 a1031 a1032])⟩ HA1060).mono ?_
    rintro e_ w1061 ⟨rfl, hS⟩
    replace HS : Aside0 (Sep FF w [b9 g1036, b10 g1038 a1039, b8 g1040 a1030 a1031 a1032] w1061) := ⟨HS.out.call (l := []) (rest := [b9 g1036, b10 g1038 a1039, b8 g1040 a1030 a1031 a1032]) hS⟩
    clear hS
    replace HS : Aside0 (Sep FF w [b9 g1036, b10 g1038 a1039] w1061) := ⟨HS.out.sub (.cons_cons _ (.cons_cons _ (.cons _ .slnil)))⟩
    go_wp2_with fail
    first | go_end0 | refine bodyPost_ret (results_none rfl _ _ _) rfl ?_
    clear H
    exact ⟨rfl, (((HS.out).front 1 (by simp)).front 1 (by simp)).keep (l := [b9 g1036, b10 g1038 a1039]) (rest := [])⟩
  · have H := if_no c1056 H
    have c1056b0 : (a1034 == 0) = false := beq_eq_false_iff_ne.mpr c1056
    have c1056b1 : (a1034 != 0) = true := bne_iff_ne.mpr c1056
    clear c1056
    go_wp2_with fail
    first | go_end0 | refine bodyPost_ret (results_none rfl _ _ _) rfl ?_
    clear H
    exact ⟨rfl, (((HS.out).front 1 (by simp)).front 1 (by simp)).keep (l := [b9 g1036, b10 g1038 a1039]) (rest := [b8 g1040 a1030 a1031 a1032])⟩
end Go.Proofs.Ytobeonkddamnoaa.C

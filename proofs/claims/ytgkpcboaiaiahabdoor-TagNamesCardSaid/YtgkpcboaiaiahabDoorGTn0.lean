/- Each function of the group Tn does what its plain function says, and changes nothing that was there; proved by walking its code. No condition. -/
import Derived.Test.YtgkpcboaiaiahabDoorQw
import Derived.Test.YtgkpcboaiaiahabDoorMTn
import Derived.Test.YtgkpcboaiaiahabDoorQs
namespace Go.Proofs.YtgkpcboaiaiahabDoor.C
open Go.RowKit Go.Proofs.YtgkpcboaiaiahabDoorW.PrintWords Go.Proofs.YtgkpcboaiaiahabDoorW.PrintLast Go.Proofs.YtgkpcboaiaiahabDoor.Q Go.Proofs.YtgkpcboaiaiahabDoor.M
set_option linter.unusedVariables false
set_option linter.unusedSimpArgs false
def b1 (g : Nat) (x0 : Int) (x1 : Int) (x2 : Int) (x3 : Int) (x4 : Int) (x5 : Int) (x6 : Int) : Ob := blk g #[.int .i64 x0, .int .i64 x1, .int .i64 x2, .int .i64 x3, .int .i64 x4, .int .i64 x5, .int .i64 x6] 23
def b2 (g : Nat) (x0 : Int) (x1 : Int) (x2 : Int) (x3 : Int) (x4 : Int) : Ob := blk g #[.int .i64 x0, .int .i64 x1, .int .i64 x2, .int .i64 x3, .int .i64 x4] 51
def b3 (g : Nat) (x0 : Int) : Ob := blk g #[.int .u32 x0] 24
def r4 (A : Option Addr) (n c : Nat) (l : List Int) : Ob := row 24 (Value.int .u32) (.slice A n c) l
def b5 (g : Nat) (x0 : Int) (x1 : Int) : Ob := blk g #[.int .u32 x0, .int .u32 x1] 24
def b6 (g : Nat) (x0 : Int) (x1 : Int) (x2 : Int) (x3 : Int) (x4 : Int) (x5 : Int) (x6 : Int) (x7 : Int) : Ob := blk g #[.int .i64 x0, .int .i64 x1, .int .i64 x2, .int .i64 x3, .int .i64 x4, .int .i64 x5, .int .i64 x6, .int .i64 x7] 3

set_option maxHeartbeats 30000000 in
set_option maxRecDepth 100000 in
theorem tag_Name.calls (a3 : Int) (r : Unit ⊕ (Unit ⊕ (Unit ⊕ (Unit ⊕ Unit)))) (w : World)  (HGl0 : Aside0 (Gl 0 #[.int .i64 0, .int .i64 0, .int .i64 0, .int .i64 0, .int .i64 0] (fps []) w)) (HGl1 : Aside0 (Gl 1 #[.string (⟨#[102, 114, 101, 101]⟩), .string (⟨#[115, 109, 97, 108, 108]⟩), .string (⟨#[115, 112, 105, 110, 101]⟩), .string (⟨#[108, 101, 97, 102]⟩)] (fps []) w)) (HS : Aside0 (Sep (fps []) w [] w)) (H : Aside0 (tag_Name.f a3 = some r)) :
    Calls Tryd.prog 13 #[.int .i64 a3] w fun e w' => Sum.elim (fun (r : Unit) => e = .returned (.string (⟨#[]⟩)) ∧ Sep (fps []) w [] w') (fun (r_ : Unit ⊕ (Unit ⊕ (Unit ⊕ Unit))) => Sum.elim (fun (r : Unit) => e = .returned (.string (⟨#[102, 114, 101, 101]⟩)) ∧ Sep (fps []) w [] w') (fun (r_ : Unit ⊕ (Unit ⊕ Unit)) => Sum.elim (fun (r : Unit) => e = .returned (.string (⟨#[115, 109, 97, 108, 108]⟩)) ∧ Sep (fps []) w [] w') (fun (r_ : Unit ⊕ Unit) => Sum.elim (fun (r : Unit) => e = .returned (.string (⟨#[115, 112, 105, 110, 101]⟩)) ∧ Sep (fps []) w [] w') (fun (r : Unit) => e = .returned (.string (⟨#[108, 101, 97, 102]⟩)) ∧ Sep (fps []) w [] w') r_) r_) r_) r := by
  unfold tag_Name.f at H
  go_enter Tryd.func13, Tryd.ntmps13
  by_cases c49 : a3 < 0
  · replace H := if_yes c49 H
    have c49b0 : decide (a3 < 0) = true := decide_eq_true c49
    clear c49
    go_wp2_with fail
    go_ret
    rw [← some_eq H]
    exact ⟨(by first | rfl | (simp [IntKind.wrap_u32]; done)), HS.out⟩
  · replace H := if_no c49 H
    have c49b0 : decide (a3 < 0) = false := decide_eq_false c49
    clear c49
    by_cases c50 : a3 ≥ 4
    · replace H := if_yes c50 H
      have c50b0 : decide (4 ≤ a3) = true := decide_eq_true c50
      clear c50
      go_wp2_with fail
      go_ret
      rw [← some_eq H]
      exact ⟨(by first | rfl | (simp [IntKind.wrap_u32]; done)), HS.out⟩
    · replace H := if_no c50 H
      have c50b0 : decide (4 ≤ a3) = false := decide_eq_false c50
      clear c50
      by_cases c51 : 0 ≤ a3
      · replace H := if_yes c51 H
        have c51b0 : decide (0 ≤ a3) = true := decide_eq_true c51
        have c51p : (0 ≤ a3) = True := eq_true c51
        clear c51
        by_cases c52 : a3 < 4
        · replace H := if_yes c52 H
          have c52b0 : decide (a3 < 4) = true := decide_eq_true c52
          have c52p : (a3 < 4) = True := eq_true c52
          clear c52
          by_cases c53 : a3 = 0
          · replace H := if_yes c53 H
            have c53b0 : (a3 == 0) = true := beq_iff_eq.mpr c53
            have c53b1 : (a3 != 0) = false := bne_eq_false_iff_eq.mpr c53
            have ix54 : ∀ w, (Instr.indexAt 55 (.pointer (some ⟨1, 0, none⟩)) (.int .i64 a3)).run Tryd.prog w = .ok (.pointer (some ⟨1, 0, none⟩)) w := run_indexAt_arr 55 9 4 1 0 1 .i64 a3 0 (by have := (of_decide_eq_true c51b0); have := (of_decide_eq_true c52b0); omega) (by decide) Tryd.underlying55 (fun _ => by kernel_rfl)
            skip
            have hc55 : w.cell? ⟨1, 0, none⟩ = some (.string (⟨#[102, 114, 101, 101]⟩)) := Gl.cell HGl1.out HS.out.fr 0 rfl
            go_wp2_with fail
            clear c53 hc55
            go_ret
            rw [← some_eq H]
            exact ⟨(by first | rfl | (simp [IntKind.wrap_u32]; done)), HS.out⟩
          · replace H := if_no c53 H
            have c53b0 : (a3 == 0) = false := beq_eq_false_iff_ne.mpr c53
            have c53b1 : (a3 != 0) = true := bne_iff_ne.mpr c53
            by_cases c56 : a3 = 1
            · replace H := if_yes c56 H
              have c56b0 : (a3 == 1) = true := beq_iff_eq.mpr c56
              have c56b1 : (a3 != 1) = false := bne_eq_false_iff_eq.mpr c56
              have ix57 : ∀ w, (Instr.indexAt 55 (.pointer (some ⟨1, 0, none⟩)) (.int .i64 a3)).run Tryd.prog w = .ok (.pointer (some ⟨1, 1, none⟩)) w := run_indexAt_arr 55 9 4 1 0 1 .i64 a3 1 (by have := (of_decide_eq_true c51b0); have := (of_decide_eq_true c52b0); omega) (by decide) Tryd.underlying55 (fun _ => by kernel_rfl)
              skip
              skip
              have hc58 : w.cell? ⟨1, 1, none⟩ = some (.string (⟨#[115, 109, 97, 108, 108]⟩)) := Gl.cell HGl1.out HS.out.fr 1 rfl
              go_wp2_with fail
              clear c53 c56 hc58
              go_ret
              rw [← some_eq H]
              exact ⟨(by first | rfl | (simp [IntKind.wrap_u32]; done)), HS.out⟩
            · replace H := if_no c56 H
              have c56b0 : (a3 == 1) = false := beq_eq_false_iff_ne.mpr c56
              have c56b1 : (a3 != 1) = true := bne_iff_ne.mpr c56
              by_cases c59 : a3 = 2
              · replace H := if_yes c59 H
                have c59b0 : (a3 == 2) = true := beq_iff_eq.mpr c59
                have c59b1 : (a3 != 2) = false := bne_eq_false_iff_eq.mpr c59
                have ix60 : ∀ w, (Instr.indexAt 55 (.pointer (some ⟨1, 0, none⟩)) (.int .i64 a3)).run Tryd.prog w = .ok (.pointer (some ⟨1, 2, none⟩)) w := run_indexAt_arr 55 9 4 1 0 1 .i64 a3 2 (by have := (of_decide_eq_true c51b0); have := (of_decide_eq_true c52b0); omega) (by decide) Tryd.underlying55 (fun _ => by kernel_rfl)
                skip
                skip
                skip
                have hc61 : w.cell? ⟨1, 2, none⟩ = some (.string (⟨#[115, 112, 105, 110, 101]⟩)) := Gl.cell HGl1.out HS.out.fr 2 rfl
                go_wp2_with fail
                clear c53 c56 c59 hc61
                go_ret
                rw [← some_eq H]
                exact ⟨(by first | rfl | (simp [IntKind.wrap_u32]; done)), HS.out⟩
              · replace H := if_no c59 H
                have c59b0 : (a3 == 2) = false := beq_eq_false_iff_ne.mpr c59
                have c59b1 : (a3 != 2) = true := bne_iff_ne.mpr c59
                have ix62 : ∀ w, (Instr.indexAt 55 (.pointer (some ⟨1, 0, none⟩)) (.int .i64 a3)).run Tryd.prog w = .ok (.pointer (some ⟨1, 3, none⟩)) w := run_indexAt_arr 55 9 4 1 0 1 .i64 a3 3 (by have := (of_decide_eq_true c51b0); have := (of_decide_eq_true c52b0); omega) (by decide) Tryd.underlying55 (fun _ => by kernel_rfl)
                skip
                skip
                skip
                have hc63 : w.cell? ⟨1, 3, none⟩ = some (.string (⟨#[108, 101, 97, 102]⟩)) := Gl.cell HGl1.out HS.out.fr 3 rfl
                go_wp2_with fail
                clear c53 c56 c59 hc63
                go_ret
                rw [← some_eq H]
                exact ⟨(by first | rfl | (simp [IntKind.wrap_u32]; done)), HS.out⟩
        · replace H := if_no c52 H
          have c52b0 : decide (a3 < 4) = false := decide_eq_false c52
          clear c52
          exact (none_no H).elim
      · replace H := if_no c51 H
        have c51b0 : decide (0 ≤ a3) = false := decide_eq_false c51
        clear c51
        exact (none_no H).elim

set_option maxHeartbeats 30000000 in
set_option maxRecDepth 100000 in
theorem quitrentref06_Name.calls (a72 : Int) (r : Unit ⊕ (Unit ⊕ (Unit ⊕ (Unit ⊕ Unit)))) (w : World)  (HGl0 : Aside0 (Gl 0 #[.int .i64 0, .int .i64 0, .int .i64 0, .int .i64 0, .int .i64 0] (fps []) w)) (HGl1 : Aside0 (Gl 1 #[.string (⟨#[102, 114, 101, 101]⟩), .string (⟨#[115, 109, 97, 108, 108]⟩), .string (⟨#[115, 112, 105, 110, 101]⟩), .string (⟨#[108, 101, 97, 102]⟩)] (fps []) w)) (HS : Aside0 (Sep (fps []) w [] w)) (H : Aside0 (quitrentref06_Name.f a72 = some r)) :
    Calls Tryd.prog 14 #[.int .i64 a72] w fun e w' => Sum.elim (fun (r : Unit) => e = .returned (.string (⟨#[102, 114, 101, 101]⟩)) ∧ Sep (fps []) w [] w') (fun (r_ : Unit ⊕ (Unit ⊕ (Unit ⊕ Unit))) => Sum.elim (fun (r : Unit) => e = .returned (.string (⟨#[115, 109, 97, 108, 108]⟩)) ∧ Sep (fps []) w [] w') (fun (r_ : Unit ⊕ (Unit ⊕ Unit)) => Sum.elim (fun (r : Unit) => e = .returned (.string (⟨#[115, 112, 105, 110, 101]⟩)) ∧ Sep (fps []) w [] w') (fun (r_ : Unit ⊕ Unit) => Sum.elim (fun (r : Unit) => e = .returned (.string (⟨#[108, 101, 97, 102]⟩)) ∧ Sep (fps []) w [] w') (fun (r : Unit) => e = .returned (.string (⟨#[]⟩)) ∧ Sep (fps []) w [] w') r_) r_) r_) r := by
  unfold quitrentref06_Name.f at H
  go_enter Tryd.func14, Tryd.ntmps14
  by_cases c86 : a72 = 0
  · replace H := if_yes c86 H
    have c86b0 : (a72 == 0) = true := beq_iff_eq.mpr c86
    have c86b1 : (a72 != 0) = false := bne_eq_false_iff_eq.mpr c86
    clear c86
    go_wp2_with fail
    go_ret
    rw [← some_eq H]
    exact ⟨(by first | rfl | (simp [IntKind.wrap_u32]; done)), HS.out⟩
  · replace H := if_no c86 H
    have c86b0 : (a72 == 0) = false := beq_eq_false_iff_ne.mpr c86
    have c86b1 : (a72 != 0) = true := bne_iff_ne.mpr c86
    clear c86
    by_cases c87 : a72 = 1
    · replace H := if_yes c87 H
      have c87b0 : (a72 == 1) = true := beq_iff_eq.mpr c87
      have c87b1 : (a72 != 1) = false := bne_eq_false_iff_eq.mpr c87
      clear c87
      go_wp2_with fail
      go_ret
      rw [← some_eq H]
      exact ⟨(by first | rfl | (simp [IntKind.wrap_u32]; done)), HS.out⟩
    · replace H := if_no c87 H
      have c87b0 : (a72 == 1) = false := beq_eq_false_iff_ne.mpr c87
      have c87b1 : (a72 != 1) = true := bne_iff_ne.mpr c87
      clear c87
      by_cases c88 : a72 = 2
      · replace H := if_yes c88 H
        have c88b0 : (a72 == 2) = true := beq_iff_eq.mpr c88
        have c88b1 : (a72 != 2) = false := bne_eq_false_iff_eq.mpr c88
        clear c88
        go_wp2_with fail
        go_ret
        rw [← some_eq H]
        exact ⟨(by first | rfl | (simp [IntKind.wrap_u32]; done)), HS.out⟩
      · replace H := if_no c88 H
        have c88b0 : (a72 == 2) = false := beq_eq_false_iff_ne.mpr c88
        have c88b1 : (a72 != 2) = true := bne_iff_ne.mpr c88
        clear c88
        by_cases c89 : a72 = 3
        · replace H := if_yes c89 H
          have c89b0 : (a72 == 3) = true := beq_iff_eq.mpr c89
          have c89b1 : (a72 != 3) = false := bne_eq_false_iff_eq.mpr c89
          clear c89
          go_wp2_with fail
          go_ret
          rw [← some_eq H]
          exact ⟨(by first | rfl | (simp [IntKind.wrap_u32]; done)), HS.out⟩
        · replace H := if_no c89 H
          have c89b0 : (a72 == 3) = false := beq_eq_false_iff_ne.mpr c89
          have c89b1 : (a72 != 3) = true := bne_iff_ne.mpr c89
          clear c89
          go_wp2_with fail
          go_ret
          rw [← some_eq H]
          exact ⟨(by first | rfl | (simp [IntKind.wrap_u32]; done)), HS.out⟩

set_option maxHeartbeats 30000000 in
set_option maxRecDepth 100000 in
theorem tag_Kind.calls (k : Nat) (a102 : ByteArray) (r : Int × Bool) (w : World)  (HGl0 : Aside0 (Gl 0 #[.int .i64 0, .int .i64 0, .int .i64 0, .int .i64 0, .int .i64 0] (fps []) w)) (HGl1 : Aside0 (Gl 1 #[.string (⟨#[102, 114, 101, 101]⟩), .string (⟨#[115, 109, 97, 108, 108]⟩), .string (⟨#[115, 112, 105, 110, 101]⟩), .string (⟨#[108, 101, 97, 102]⟩)] (fps []) w)) (HS : Aside0 (Sep (fps []) w [] w)) (H : Aside0 (tag_Kind.f k a102 = some r)) :
    Calls Tryd.prog 15 #[.string a102] w fun e w' => e = .returned (.tuple #[.int .i64 r.1, .bool r.2]) ∧ Sep (fps []) w [] w' := by
  unfold tag_Kind.f at H
  go_enter Tryd.func15, Tryd.ntmps15
  have hc103 : w.cell? ⟨1, 0, none⟩ = some (.string (⟨#[102, 114, 101, 101]⟩)) := Gl.cell HGl1.out HS.out.fr 0 rfl
  have hc104 : w.cell? ⟨1, 1, none⟩ = some (.string (⟨#[115, 109, 97, 108, 108]⟩)) := Gl.cell HGl1.out HS.out.fr 1 rfl
  have hc105 : w.cell? ⟨1, 2, none⟩ = some (.string (⟨#[115, 112, 105, 110, 101]⟩)) := Gl.cell HGl1.out HS.out.fr 2 rfl
  have hc106 : w.cell? ⟨1, 3, none⟩ = some (.string (⟨#[108, 101, 97, 102]⟩)) := Gl.cell HGl1.out HS.out.fr 3 rfl
  go_wp2_with fail
  clear hc103 hc104 hc105 hc106
  obtain ⟨o119, AL120, H⟩ := bind_some H
  go_loopg [7] k (fun kq v7 wc => ∃ (x123 : Int), v7 = .int .i64 x123 ∧ Aside0 (tag_Kind.lo0 kq a102 x123 = some o119) ∧ Aside0 (Sep (fps []) w [] wc))
  case atStart => exact ⟨(0), (by first | rfl | (simp [IntKind.wrap_u32]; done)), AL120, ⟨HS.out⟩⟩
  case round =>
    clear AL120 HS
    obtain ⟨x123, rfl, AL120, HS⟩ := hrel
    obtain ⟨w121, rfl⟩ : ∃ x : World, x = wr := ⟨_, rfl⟩
    cases gk with
    | zero => exact absurd AL120.out (by simp [tag_Kind.lo0])
    | succ k122 =>
      have AL0 := AL120.out
      rw [tag_Kind.lo0] at AL0
      clear AL120
      have AL120 := Aside0.mk AL0
      clear AL0
      by_cases c124 : x123 < 4
      · replace AL120 := if_yes c124 AL120
        have c124b0 : decide (x123 < 4) = true := decide_eq_true c124
        clear c124
        by_cases c125 : 0 ≤ x123
        · replace AL120 := if_yes c125 AL120
          have c125b0 : decide (0 ≤ x123) = true := decide_eq_true c125
          have c125p : (0 ≤ x123) = True := eq_true c125
          clear c125
          have ip126 : (x123 < 4) = True := eq_true (of_decide_eq_true c124b0)
          by_cases c127 : x123 = 0
          · replace AL120 := if_yes c127 AL120
            have c127b0 : (x123 == 0) = true := beq_iff_eq.mpr c127
            have c127b1 : (x123 != 0) = false := bne_eq_false_iff_eq.mpr c127
            clear c127
            have ix128 : ∀ w, (Instr.index 55 (.agg #[.string (⟨#[102, 114, 101, 101]⟩), .string (⟨#[115, 109, 97, 108, 108]⟩), .string (⟨#[115, 112, 105, 110, 101]⟩), .string (⟨#[108, 101, 97, 102]⟩)]) (.int .i64 x123)).run Tryd.prog w = .ok (.string (⟨#[102, 114, 101, 101]⟩)) w := run_index_val 55 9 4 .i64 #[.string (⟨#[102, 114, 101, 101]⟩), .string (⟨#[115, 109, 97, 108, 108]⟩), .string (⟨#[115, 112, 105, 110, 101]⟩), .string (⟨#[108, 101, 97, 102]⟩)] x123 0 (.string (⟨#[102, 114, 101, 101]⟩)) (eq_of_beq c127b0) (by decide) Tryd.underlying55 (fun _ => by kernel_rfl) (fun _ => by kernel_rfl) rfl
            by_cases c129 : (([102, 114, 101, 101] : List UInt8) == a102.toList) = true
            · replace AL120 := if_yes c129 AL120
              have c129b0 : (([102, 114, 101, 101] : List UInt8) == a102.toList) = true := c129
              have c129b1 : (!(([102, 114, 101, 101] : List UInt8) == a102.toList)) = false := by rw [c129b0]; rfl
              clear c129
              go_wp2_with fail
              have ho := some_eq AL120
              subst ho
              have H := lp_ret H
              go_ret2
              rw [← some_eq H]
              exact ⟨(by first | rfl | (simp [IntKind.wrap_u32]; done)), HS.out⟩
            · replace AL120 := if_no c129 AL120
              have c129b0 : (([102, 114, 101, 101] : List UInt8) == a102.toList) = false := by simpa using c129
              have c129b1 : (!(([102, 114, 101, 101] : List UInt8) == a102.toList)) = true := by rw [c129b0]; rfl
              clear c129
              go_wp2_with fail
              go_roundg k122
              case measure => exact Nat.lt_succ_self _
              case rel => exact ⟨(wrap64 (x123 + 1)), (by first | rfl | (simp [IntKind.wrap_u32]; done)), Aside0.mk AL120.out, ⟨HS.out⟩⟩
          · replace AL120 := if_no c127 AL120
            have c127b0 : (x123 == 0) = false := beq_eq_false_iff_ne.mpr c127
            have c127b1 : (x123 != 0) = true := bne_iff_ne.mpr c127
            clear c127
            by_cases c130 : x123 = 1
            · replace AL120 := if_yes c130 AL120
              have c130b0 : (x123 == 1) = true := beq_iff_eq.mpr c130
              have c130b1 : (x123 != 1) = false := bne_eq_false_iff_eq.mpr c130
              clear c130
              have ix131 : ∀ w, (Instr.index 55 (.agg #[.string (⟨#[102, 114, 101, 101]⟩), .string (⟨#[115, 109, 97, 108, 108]⟩), .string (⟨#[115, 112, 105, 110, 101]⟩), .string (⟨#[108, 101, 97, 102]⟩)]) (.int .i64 x123)).run Tryd.prog w = .ok (.string (⟨#[115, 109, 97, 108, 108]⟩)) w := run_index_val 55 9 4 .i64 #[.string (⟨#[102, 114, 101, 101]⟩), .string (⟨#[115, 109, 97, 108, 108]⟩), .string (⟨#[115, 112, 105, 110, 101]⟩), .string (⟨#[108, 101, 97, 102]⟩)] x123 1 (.string (⟨#[115, 109, 97, 108, 108]⟩)) (eq_of_beq c130b0) (by decide) Tryd.underlying55 (fun _ => by kernel_rfl) (fun _ => by kernel_rfl) rfl
              by_cases c132 : (([115, 109, 97, 108, 108] : List UInt8) == a102.toList) = true
              · replace AL120 := if_yes c132 AL120
                have c132b0 : (([115, 109, 97, 108, 108] : List UInt8) == a102.toList) = true := c132
                have c132b1 : (!(([115, 109, 97, 108, 108] : List UInt8) == a102.toList)) = false := by rw [c132b0]; rfl
                clear c132
                go_wp2_with fail
                have ho := some_eq AL120
                subst ho
                have H := lp_ret H
                go_ret2
                rw [← some_eq H]
                exact ⟨(by first | rfl | (simp [IntKind.wrap_u32]; done)), HS.out⟩
              · replace AL120 := if_no c132 AL120
                have c132b0 : (([115, 109, 97, 108, 108] : List UInt8) == a102.toList) = false := by simpa using c132
                have c132b1 : (!(([115, 109, 97, 108, 108] : List UInt8) == a102.toList)) = true := by rw [c132b0]; rfl
                clear c132
                go_wp2_with fail
                go_roundg k122
                case measure => exact Nat.lt_succ_self _
                case rel => exact ⟨(wrap64 (x123 + 1)), (by first | rfl | (simp [IntKind.wrap_u32]; done)), Aside0.mk AL120.out, ⟨HS.out⟩⟩
            · replace AL120 := if_no c130 AL120
              have c130b0 : (x123 == 1) = false := beq_eq_false_iff_ne.mpr c130
              have c130b1 : (x123 != 1) = true := bne_iff_ne.mpr c130
              clear c130
              by_cases c133 : x123 = 2
              · replace AL120 := if_yes c133 AL120
                have c133b0 : (x123 == 2) = true := beq_iff_eq.mpr c133
                have c133b1 : (x123 != 2) = false := bne_eq_false_iff_eq.mpr c133
                clear c133
                have ix134 : ∀ w, (Instr.index 55 (.agg #[.string (⟨#[102, 114, 101, 101]⟩), .string (⟨#[115, 109, 97, 108, 108]⟩), .string (⟨#[115, 112, 105, 110, 101]⟩), .string (⟨#[108, 101, 97, 102]⟩)]) (.int .i64 x123)).run Tryd.prog w = .ok (.string (⟨#[115, 112, 105, 110, 101]⟩)) w := run_index_val 55 9 4 .i64 #[.string (⟨#[102, 114, 101, 101]⟩), .string (⟨#[115, 109, 97, 108, 108]⟩), .string (⟨#[115, 112, 105, 110, 101]⟩), .string (⟨#[108, 101, 97, 102]⟩)] x123 2 (.string (⟨#[115, 112, 105, 110, 101]⟩)) (eq_of_beq c133b0) (by decide) Tryd.underlying55 (fun _ => by kernel_rfl) (fun _ => by kernel_rfl) rfl
                by_cases c135 : (([115, 112, 105, 110, 101] : List UInt8) == a102.toList) = true
                · replace AL120 := if_yes c135 AL120
                  have c135b0 : (([115, 112, 105, 110, 101] : List UInt8) == a102.toList) = true := c135
                  have c135b1 : (!(([115, 112, 105, 110, 101] : List UInt8) == a102.toList)) = false := by rw [c135b0]; rfl
                  clear c135
                  go_wp2_with fail
                  have ho := some_eq AL120
                  subst ho
                  have H := lp_ret H
                  go_ret2
                  rw [← some_eq H]
                  exact ⟨(by first | rfl | (simp [IntKind.wrap_u32]; done)), HS.out⟩
                · replace AL120 := if_no c135 AL120
                  have c135b0 : (([115, 112, 105, 110, 101] : List UInt8) == a102.toList) = false := by simpa using c135
                  have c135b1 : (!(([115, 112, 105, 110, 101] : List UInt8) == a102.toList)) = true := by rw [c135b0]; rfl
                  clear c135
                  go_wp2_with fail
                  go_roundg k122
                  case measure => exact Nat.lt_succ_self _
                  case rel => exact ⟨(wrap64 (x123 + 1)), (by first | rfl | (simp [IntKind.wrap_u32]; done)), Aside0.mk AL120.out, ⟨HS.out⟩⟩
              · replace AL120 := if_no c133 AL120
                have c133b0 : (x123 == 2) = false := beq_eq_false_iff_ne.mpr c133
                have c133b1 : (x123 != 2) = true := bne_iff_ne.mpr c133
                clear c133
                have ix136 : ∀ w, (Instr.index 55 (.agg #[.string (⟨#[102, 114, 101, 101]⟩), .string (⟨#[115, 109, 97, 108, 108]⟩), .string (⟨#[115, 112, 105, 110, 101]⟩), .string (⟨#[108, 101, 97, 102]⟩)]) (.int .i64 x123)).run Tryd.prog w = .ok (.string (⟨#[108, 101, 97, 102]⟩)) w := run_index_val 55 9 4 .i64 #[.string (⟨#[102, 114, 101, 101]⟩), .string (⟨#[115, 109, 97, 108, 108]⟩), .string (⟨#[115, 112, 105, 110, 101]⟩), .string (⟨#[108, 101, 97, 102]⟩)] x123 3 (.string (⟨#[108, 101, 97, 102]⟩)) (by have := (of_decide_eq_true c125b0); have := (of_decide_eq_true c124b0); have := beq_eq_false_iff_ne.mp c127b0; have := beq_eq_false_iff_ne.mp c130b0; have := beq_eq_false_iff_ne.mp c133b0; omega) (by decide) Tryd.underlying55 (fun _ => by kernel_rfl) (fun _ => by kernel_rfl) rfl
                by_cases c137 : (([108, 101, 97, 102] : List UInt8) == a102.toList) = true
                · replace AL120 := if_yes c137 AL120
                  have c137b0 : (([108, 101, 97, 102] : List UInt8) == a102.toList) = true := c137
                  have c137b1 : (!(([108, 101, 97, 102] : List UInt8) == a102.toList)) = false := by rw [c137b0]; rfl
                  clear c137
                  go_wp2_with fail
                  have ho := some_eq AL120
                  subst ho
                  have H := lp_ret H
                  go_ret2
                  rw [← some_eq H]
                  exact ⟨(by first | rfl | (simp [IntKind.wrap_u32]; done)), HS.out⟩
                · replace AL120 := if_no c137 AL120
                  have c137b0 : (([108, 101, 97, 102] : List UInt8) == a102.toList) = false := by simpa using c137
                  have c137b1 : (!(([108, 101, 97, 102] : List UInt8) == a102.toList)) = true := by rw [c137b0]; rfl
                  clear c137
                  go_wp2_with fail
                  go_roundg k122
                  case measure => exact Nat.lt_succ_self _
                  case rel => exact ⟨(wrap64 (x123 + 1)), (by first | rfl | (simp [IntKind.wrap_u32]; done)), Aside0.mk AL120.out, ⟨HS.out⟩⟩
        · replace AL120 := if_no c125 AL120
          have c125b0 : decide (0 ≤ x123) = false := decide_eq_false c125
          clear c125
          exact (none_no AL120).elim
      · replace AL120 := if_no c124 AL120
        have c124b0 : decide (x123 < 4) = false := decide_eq_false c124
        clear c124
        have ho := some_eq AL120
        subst ho
        clear AL120
        have H := lp_out H
        go_wp2_with fail
        go_ret2
        rw [← some_eq H]
        exact ⟨(by first | rfl | (simp [IntKind.wrap_u32]; done)), HS.out⟩

set_option maxHeartbeats 30000000 in
set_option maxRecDepth 100000 in
theorem tag_marks.calls (a202 : Int) (a203 : Int) (a204 : Int) (a205 : Int) (a206 : Int) (a207 : Int) (a208 : Int) (r : Int × Int × Int × Int × Int) (w : World)  (HGl0 : Aside0 (Gl 0 #[.int .i64 0, .int .i64 0, .int .i64 0, .int .i64 0, .int .i64 0] (fps []) w)) (HGl1 : Aside0 (Gl 1 #[.string (⟨#[102, 114, 101, 101]⟩), .string (⟨#[115, 109, 97, 108, 108]⟩), .string (⟨#[115, 112, 105, 110, 101]⟩), .string (⟨#[108, 101, 97, 102]⟩)] (fps []) w)) (HS : Aside0 (Sep (fps []) w [] w)) (H : Aside0 (tag_marks.f a202 a203 a204 a205 a206 a207 a208 = some r)) :
    Calls Tryd.prog 23 #[.agg #[.int .i64 a202, .int .i64 a203, .int .i64 a204, .int .i64 a205, .int .i64 a206, .int .i64 a207, .int .i64 a208]] w fun e w' => e = .returned (.agg #[.int .i64 r.1, .int .i64 r.2.1, .int .i64 r.2.2.1, .int .i64 r.2.2.2.1, .int .i64 r.2.2.2.2]) ∧ Sep (fps []) w [] w' := by
  unfold tag_marks.f at H
  go_enter Tryd.func23, Tryd.ntmps23
  go_wp2_with (first | ((with_reducible refine gate_dst (N := 1) rfl ?_); refine box_on ?hg (N := 1) ?hd (cs := #[.int .i64 a202, .int .i64 a203, .int .i64 a204, .int .i64 a205, .int .i64 a206, .int .i64 a207, .int .i64 a208]) (t := 23) ?hr ?_; (case hd => rfl); (case hg => rfl); (case hr => first | (go_simp; done) | (go_simp; rfl)); intro g209 hg w210 hbox hb; replace HS : Aside0 (Sep (fps []) w [b1 g209 a202 a203 a204 a205 a206 a207 a208] w210) := ⟨HS.out.box hg hbox hb⟩; clear hg hbox hb) | ((with_reducible refine gate_dst (N := 2) rfl ?_); refine box_on ?hg (N := 2) ?hd (cs := #[.int .i64 0, .int .i64 0, .int .i64 0, .int .i64 0, .int .i64 0]) (t := 51) ?hr ?_; (case hd => rfl); (case hg => rfl); (case hr => first | (go_simp; done) | (go_simp; rfl)); intro g212 hg w213 hbox hb; replace HS : Aside0 (Sep (fps []) w [b1 g209 a202 a203 a204 a205 a206 a207 a208, b2 g212 0 0 0 0 0] w213) := ⟨HS.out.box hg hbox hb⟩; clear hg hbox hb; have hc215 : w213.cell? ⟨g209, 1, none⟩ = some (.int .i64 a203) := blk_cellv (HS.out.at0) 1 rfl; have hc216 : w213.cell? ⟨g209, 2, none⟩ = some (.int .i64 a204) := blk_cellv (HS.out.at0) 2 rfl; have hc217 : w213.cell? ⟨g209, 3, none⟩ = some (.int .i64 a205) := blk_cellv (HS.out.at0) 3 rfl; have hc218 : w213.cell? ⟨g209, 4, none⟩ = some (.int .i64 a206) := blk_cellv (HS.out.at0) 4 rfl; have hc219 : w213.cell? ⟨g209, 5, none⟩ = some (.int .i64 a207) := blk_cellv (HS.out.at0) 5 rfl; have hc220 : w213.cell? ⟨g212, 0, none⟩ = some (.int .i64 0) := blk_cellv (HS.out.at1) 0 rfl; have hz221 : w213.frozen? ⟨g212, 0, none⟩ = false := blk_fz (HS.out.at1) 0; have hc222 : w213.cell? ⟨g212, 1, none⟩ = some (.int .i64 0) := blk_cellv (HS.out.at1) 1 rfl; have hz223 : w213.frozen? ⟨g212, 1, none⟩ = false := blk_fz (HS.out.at1) 1; have hc224 : w213.cell? ⟨g212, 2, none⟩ = some (.int .i64 0) := blk_cellv (HS.out.at1) 2 rfl; have hz225 : w213.frozen? ⟨g212, 2, none⟩ = false := blk_fz (HS.out.at1) 2; have hc226 : w213.cell? ⟨g212, 3, none⟩ = some (.int .i64 0) := blk_cellv (HS.out.at1) 3 rfl; have hz227 : w213.frozen? ⟨g212, 3, none⟩ = false := blk_fz (HS.out.at1) 3; have hc228 : w213.cell? ⟨g212, 4, none⟩ = some (.int .i64 0) := blk_cellv (HS.out.at1) 4 rfl; have hz229 : w213.frozen? ⟨g212, 4, none⟩ = false := blk_fz (HS.out.at1) 4) | ((with_reducible refine gate_store (t := 51) (p := 2) rfl ?_); refine store_event (w1 := (World.setCell (World.setCell (World.setCell (World.setCell (World.setCell w213 ⟨g212, 0, none⟩ (.int .i64 a203)) ⟨g212, 1, none⟩ (.int .i64 a204)) ⟨g212, 2, none⟩ (.int .i64 a205)) ⟨g212, 3, none⟩ (.int .i64 a206)) ⟨g212, 4, none⟩ (.int .i64 a207))) rfl (t := 51) (p := 2) rfl rfl ?hr ?_; (case hr => first | (go_simp; done) | (go_simp; rfl)); intro w230 hst; clear hc215 hc216 hc217 hc218 hc219 hc220 hz221 hc222 hz223 hc224 hz225 hc226 hz227 hc228 hz229; replace HS : Aside0 (Sep (fps []) w [b1 g209 a202 a203 a204 a205 a206 a207 a208, b2 g212 a203 a204 a205 a206 a207] w230) := ⟨by rw [hst]; exact HS.out.setAll (l1 := [b1 g209 a202 a203 a204 a205 a206 a207 a208]) (l2 := []) [.int .i64 a203, .int .i64 a204, .int .i64 a205, .int .i64 a206, .int .i64 a207] rfl⟩; clear hst; replace HS : Aside0 (Sep (fps []) w [b2 g212 a203 a204 a205 a206 a207] w230) := ⟨HS.out.sub (.cons _ (.cons_cons _ .slnil))⟩))
  have hc231 : w230.cell? ⟨g212, 0, none⟩ = some (.int .i64 a203) := blk_cellv (HS.out.at0) 0 rfl
  have hc232 : w230.cell? ⟨g212, 1, none⟩ = some (.int .i64 a204) := blk_cellv (HS.out.at0) 1 rfl
  have hc233 : w230.cell? ⟨g212, 2, none⟩ = some (.int .i64 a205) := blk_cellv (HS.out.at0) 2 rfl
  have hc234 : w230.cell? ⟨g212, 3, none⟩ = some (.int .i64 a206) := blk_cellv (HS.out.at0) 3 rfl
  have hc235 : w230.cell? ⟨g212, 4, none⟩ = some (.int .i64 a207) := blk_cellv (HS.out.at0) 4 rfl
  refine bodyPost_ret (v := .agg #[.int .i64 a203, .int .i64 a204, .int .i64 a205, .int .i64 a206, .int .i64 a207]) (by simp [results, Tryd.results23, go_sem, hc231, hc232, hc233, hc234, hc235]) rfl ?_
  rw [← some_eq H]
  exact ⟨(by first | rfl | (simp [IntKind.wrap_u32]; done)), HS.out.sub (.cons _ .slnil)⟩

set_option maxHeartbeats 30000000 in
set_option maxRecDepth 100000 in
theorem tag_Right.calls (k : Nat) (a185 : Int) (a186 : Int) (a187 : Int) (a188 : Int) (a189 : Int) (a190 : Int) (a191 : Int) (r : Bool) (w : World)  (HGl0 : Aside0 (Gl 0 #[.int .i64 0, .int .i64 0, .int .i64 0, .int .i64 0, .int .i64 0] (fps []) w)) (HGl1 : Aside0 (Gl 1 #[.string (⟨#[102, 114, 101, 101]⟩), .string (⟨#[115, 109, 97, 108, 108]⟩), .string (⟨#[115, 112, 105, 110, 101]⟩), .string (⟨#[108, 101, 97, 102]⟩)] (fps []) w)) (HS : Aside0 (Sep (fps []) w [] w)) (H : Aside0 (tag_Right.f k a185 a186 a187 a188 a189 a190 a191 = some r)) :
    Calls Tryd.prog 10 #[.agg #[.int .i64 a185, .int .i64 a186, .int .i64 a187, .int .i64 a188, .int .i64 a189, .int .i64 a190, .int .i64 a191]] w fun e w' => e = .returned (.bool r) ∧ Sep (fps []) w [] w' := by
  unfold tag_Right.f at H
  go_enter Tryd.func10, Tryd.ntmps10
  go_wp2_with (first | ((with_reducible refine gate_dst (N := 1) rfl ?_); refine box_on ?hg (N := 1) ?hd (cs := #[.int .i64 a185, .int .i64 a186, .int .i64 a187, .int .i64 a188, .int .i64 a189, .int .i64 a190, .int .i64 a191]) (t := 23) ?hr ?_; (case hd => rfl); (case hg => rfl); (case hr => first | (go_simp; done) | (go_simp; rfl)); intro g192 hg w193 hbox hb; replace HS : Aside0 (Sep (fps []) w [b1 g192 a185 a186 a187 a188 a189 a190 a191] w193) := ⟨HS.out.box hg hbox hb⟩; clear hg hbox hb; have hc195 : w193.cell? ⟨g192, 0, none⟩ = some (.int .i64 a185) := blk_cellv (HS.out.at0) 0 rfl; have hc196 : w193.cell? ⟨g192, 1, none⟩ = some (.int .i64 a186) := blk_cellv (HS.out.at0) 1 rfl; have hc197 : w193.cell? ⟨g192, 2, none⟩ = some (.int .i64 a187) := blk_cellv (HS.out.at0) 2 rfl; have hc198 : w193.cell? ⟨g192, 3, none⟩ = some (.int .i64 a188) := blk_cellv (HS.out.at0) 3 rfl; have hc199 : w193.cell? ⟨g192, 4, none⟩ = some (.int .i64 a189) := blk_cellv (HS.out.at0) 4 rfl; have hc200 : w193.cell? ⟨g192, 5, none⟩ = some (.int .i64 a190) := blk_cellv (HS.out.at0) 5 rfl; have hc201 : w193.cell? ⟨g192, 6, none⟩ = some (.int .i64 a191) := blk_cellv (HS.out.at0) 6 rfl))
  clear hc195 hc196 hc197 hc198 hc199 hc200 hc201
  obtain ⟨t236, HA237, H⟩ := bind_some H
  refine (tag_marks.calls a185 a186 a187 a188 a189 a190 a191 t236 _ ⟨HGl0.out.pass (l := []) HS.out⟩ ⟨HGl1.out.pass (l := []) HS.out⟩ ⟨Sep.start _⟩ HA237).mono ?_
  rintro e_ w238 ⟨rfl, hS⟩
  replace HS : Aside0 (Sep (fps []) w [b1 g192 a185 a186 a187 a188 a189 a190 a191] w238) := ⟨HS.out.call hS⟩
  clear hS
  go_wp2_with fail
  obtain ⟨o251, AL252, H⟩ := bind_some H
  go_loopg [7] k (fun kq v7 wc => ∃ (x255 : Int), v7 = .int .i64 x255 ∧ Aside0 (tag_Right.lo0 kq t236 x255 = some o251) ∧ Aside0 (Sep (fps []) w [b1 g192 a185 a186 a187 a188 a189 a190 a191] wc))
  case atStart => exact ⟨(0), (by first | rfl | (simp [IntKind.wrap_u32]; done)), AL252, ⟨HS.out⟩⟩
  case round =>
    clear AL252 HS
    obtain ⟨x255, rfl, AL252, HS⟩ := hrel
    obtain ⟨w253, rfl⟩ : ∃ x : World, x = wr := ⟨_, rfl⟩
    cases gk with
    | zero => exact absurd AL252.out (by simp [tag_Right.lo0])
    | succ k254 =>
      have AL0 := AL252.out
      rw [tag_Right.lo0] at AL0
      clear AL252
      have AL252 := Aside0.mk AL0
      clear AL0
      by_cases c256 : x255 < 5
      · replace AL252 := if_yes c256 AL252
        have c256b0 : decide (x255 < 5) = true := decide_eq_true c256
        clear c256
        by_cases c257 : 0 ≤ x255
        · replace AL252 := if_yes c257 AL252
          have c257b0 : decide (0 ≤ x255) = true := decide_eq_true c257
          have c257p : (0 ≤ x255) = True := eq_true c257
          clear c257
          have ip258 : (x255 < 5) = True := eq_true (of_decide_eq_true c256b0)
          have ix259 : ∀ w, (Instr.index 51 (.agg #[.int .i64 t236.1, .int .i64 t236.2.1, .int .i64 t236.2.2.1, .int .i64 t236.2.2.2.1, .int .i64 t236.2.2.2.2]) (.int .i64 x255)).run Tryd.prog w = .ok (.int .i64 (rd [t236.1, t236.2.1, t236.2.2.1, t236.2.2.2.1, t236.2.2.2.2] x255)) w := run_index_ints 51 3 5 .i64 .i64 [t236.1, t236.2.1, t236.2.2.1, t236.2.2.2.1, t236.2.2.2.2] x255 Tryd.underlying51 (fun _ => by kernel_rfl) (fun _ => by kernel_rfl) rfl (of_decide_eq_true c257b0) (of_decide_eq_true c256b0)
          by_cases c260 : (rd [t236.1, t236.2.1, t236.2.2.1, t236.2.2.2.1, t236.2.2.2.2] x255) = 0
          · replace AL252 := if_yes c260 AL252
            have c260b0 : ((rd [t236.1, t236.2.1, t236.2.2.1, t236.2.2.2.1, t236.2.2.2.2] x255) == 0) = true := beq_iff_eq.mpr c260
            have c260b1 : ((rd [t236.1, t236.2.1, t236.2.2.1, t236.2.2.2.1, t236.2.2.2.2] x255) != 0) = false := bne_eq_false_iff_eq.mpr c260
            clear c260
            go_wp2_with fail
            go_roundg k254
            case measure => exact Nat.lt_succ_self _
            case rel => exact ⟨(wrap64 (x255 + 1)), (by first | rfl | (simp [IntKind.wrap_u32]; done)), Aside0.mk AL252.out, ⟨HS.out⟩⟩
          · replace AL252 := if_no c260 AL252
            have c260b0 : ((rd [t236.1, t236.2.1, t236.2.2.1, t236.2.2.2.1, t236.2.2.2.2] x255) == 0) = false := beq_eq_false_iff_ne.mpr c260
            have c260b1 : ((rd [t236.1, t236.2.1, t236.2.2.1, t236.2.2.2.1, t236.2.2.2.2] x255) != 0) = true := bne_iff_ne.mpr c260
            clear c260
            by_cases c261 : (rd [t236.1, t236.2.1, t236.2.2.1, t236.2.2.2.1, t236.2.2.2.2] x255) = 1
            · replace AL252 := if_yes c261 AL252
              have c261b0 : ((rd [t236.1, t236.2.1, t236.2.2.1, t236.2.2.2.1, t236.2.2.2.2] x255) == 1) = true := beq_iff_eq.mpr c261
              have c261b1 : ((rd [t236.1, t236.2.1, t236.2.2.1, t236.2.2.2.1, t236.2.2.2.2] x255) != 1) = false := bne_eq_false_iff_eq.mpr c261
              clear c261
              go_wp2_with fail
              go_roundg k254
              case measure => exact Nat.lt_succ_self _
              case rel => exact ⟨(wrap64 (x255 + 1)), (by first | rfl | (simp [IntKind.wrap_u32]; done)), Aside0.mk AL252.out, ⟨HS.out⟩⟩
            · replace AL252 := if_no c261 AL252
              have c261b0 : ((rd [t236.1, t236.2.1, t236.2.2.1, t236.2.2.2.1, t236.2.2.2.2] x255) == 1) = false := beq_eq_false_iff_ne.mpr c261
              have c261b1 : ((rd [t236.1, t236.2.1, t236.2.2.1, t236.2.2.2.1, t236.2.2.2.2] x255) != 1) = true := bne_iff_ne.mpr c261
              clear c261
              go_wp2_with fail
              have ho := some_eq AL252
              subst ho
              have H := lp_ret H
              go_ret
              rw [← some_eq H]
              exact ⟨(by first | rfl | (simp [IntKind.wrap_u32]; done)), HS.out.sub (.cons _ .slnil)⟩
        · replace AL252 := if_no c257 AL252
          have c257b0 : decide (0 ≤ x255) = false := decide_eq_false c257
          clear c257
          exact (none_no AL252).elim
      · replace AL252 := if_no c256 AL252
        have c256b0 : decide (x255 < 5) = false := decide_eq_false c256
        clear c256
        have ho := some_eq AL252
        subst ho
        clear AL252
        have H := lp_out H
        by_cases c263 : a185 = 1
        · replace H := if_yes c263 H
          have c263b0 : (a185 == 1) = true := beq_iff_eq.mpr c263
          have c263b1 : (a185 != 1) = false := bne_eq_false_iff_eq.mpr c263
          clear c263
          have hc262 : w253.cell? ⟨g192, 0, none⟩ = some (.int .i64 a185) := blk_cellv (HS.out.at0) 0 rfl
          have hc264 : w253.cell? ⟨g192, 6, none⟩ = some (.int .i64 a191) := blk_cellv (HS.out.at0) 6 rfl
          replace HS : Aside0 (Sep (fps []) w [] w253) := ⟨HS.out.sub (.cons _ .slnil)⟩
          go_wp2_with fail
          clear hc262 hc264
          go_ret
          rw [← some_eq H]
          exact ⟨(by first | rfl | (simp [IntKind.wrap_u32]; done)), HS.out⟩
        · replace H := if_no c263 H
          have c263b0 : (a185 == 1) = false := beq_eq_false_iff_ne.mpr c263
          have c263b1 : (a185 != 1) = true := bne_iff_ne.mpr c263
          clear c263
          by_cases c265 : a185 = 2
          · replace H := if_yes c265 H
            have c265b0 : (a185 == 2) = true := beq_iff_eq.mpr c265
            have c265b1 : (a185 != 2) = false := bne_eq_false_iff_eq.mpr c265
            clear c265
            have hc262 : w253.cell? ⟨g192, 0, none⟩ = some (.int .i64 a185) := blk_cellv (HS.out.at0) 0 rfl
            have hc266 : w253.cell? ⟨g192, 6, none⟩ = some (.int .i64 a191) := blk_cellv (HS.out.at0) 6 rfl
            replace HS : Aside0 (Sep (fps []) w [] w253) := ⟨HS.out.sub (.cons _ .slnil)⟩
            go_wp2_with fail
            clear hc262 hc266
            go_ret
            rw [← some_eq H]
            exact ⟨(by first | rfl | (simp [IntKind.wrap_u32]; done)), HS.out⟩
          · replace H := if_no c265 H
            have c265b0 : (a185 == 2) = false := beq_eq_false_iff_ne.mpr c265
            have c265b1 : (a185 != 2) = true := bne_iff_ne.mpr c265
            clear c265
            by_cases c267 : a185 = 0
            · replace H := if_yes c267 H
              have c267b0 : (a185 == 0) = true := beq_iff_eq.mpr c267
              have c267b1 : (a185 != 0) = false := bne_eq_false_iff_eq.mpr c267
              clear c267
              have hc262 : w253.cell? ⟨g192, 0, none⟩ = some (.int .i64 a185) := blk_cellv (HS.out.at0) 0 rfl
              go_wp2_with fail
              clear hc262
              refine start_ (n := 25) (S := (fun w' => w'.cell? ⟨g192, 0, none⟩ = some (.int .i64 a185) ∧ w'.cell? ⟨g192, 1, none⟩ = some (.int .i64 a186) ∧ w'.cell? ⟨g192, 2, none⟩ = some (.int .i64 a187) ∧ w'.cell? ⟨g192, 3, none⟩ = some (.int .i64 a188) ∧ w'.cell? ⟨g192, 4, none⟩ = some (.int .i64 a189) ∧ w'.cell? ⟨g192, 5, none⟩ = some (.int .i64 a190) ∧ w'.cell? ⟨g192, 6, none⟩ = some (.int .i64 a191) ∧ w'.cell? ⟨0, 0, none⟩ = some (.int .i64 0) ∧ w'.cell? ⟨0, 1, none⟩ = some (.int .i64 0) ∧ w'.cell? ⟨0, 2, none⟩ = some (.int .i64 0) ∧ w'.cell? ⟨0, 3, none⟩ = some (.int .i64 0) ∧ w'.cell? ⟨0, 4, none⟩ = some (.int .i64 0))) (ds := []) #[false, false, false, false, false, false, false, false, false, false, false, false, false, false, false, false, false, false, false, false, false, false, false, false, false] (by kernel_rfl) rfl rfl (⟨blk_cellv ((HS.out.drew).at0) 0 rfl, blk_cellv ((HS.out.drew).at0) 1 rfl, blk_cellv ((HS.out.drew).at0) 2 rfl, blk_cellv ((HS.out.drew).at0) 3 rfl, blk_cellv ((HS.out.drew).at0) 4 rfl, blk_cellv ((HS.out.drew).at0) 5 rfl, blk_cellv ((HS.out.drew).at0) 6 rfl, Gl.cell HGl0.out (HS.out.drew).fr 0 rfl, Gl.cell HGl0.out (HS.out.drew).fr 1 rfl, Gl.cell HGl0.out (HS.out.drew).fr 2 rfl, Gl.cell HGl0.out (HS.out.drew).fr 3 rfl, Gl.cell HGl0.out (HS.out.drew).fr 4 rfl⟩) (fun hHeld => ?_)
              have HS_ := Aside0.mk HS.out.drew
              clear HS
              generalize World.drew _ = w269 at HS_ hHeld ⊢
              have HS := HS_
              clear HS_
              refine take_ (i := 0) (N := some 28) (v := ?_) (a' := ?_) #[true, false, false, false, false, false, false, false, false, false, false, false, false, false, false, false, false, false, false, false, false, false, false, false, false] rfl rfl (by kernel_rfl) (fun _ _ _ h => h) (Or.inl ⟨by rfl, ?_⟩) hHeld ?_ ?_
              rotate_left
              · rintro w' hS'
                obtain ⟨s0, s1, s2, s3, s4, s5, s6, s7, s8, s9, s10, s11⟩ := hS'
                go_simp
                with_reducible rfl
              rotate_left
              · simp only [Act.put, List.setIfInBounds_toArray, List.set_cons_zero, List.set_cons_succ, i64_w, i32_w]
                rfl
              refine take_ (i := 2) (N := some 30) (v := ?_) (a' := ?_) #[true, false, true, false, false, false, false, false, false, false, false, false, false, false, false, false, false, false, false, false, false, false, false, false, false] rfl rfl (by kernel_rfl) (fun _ _ _ h => h) (Or.inl ⟨by rfl, ?_⟩) hHeld ?_ ?_
              rotate_left
              · rintro w' hS'
                obtain ⟨s0, s1, s2, s3, s4, s5, s6, s7, s8, s9, s10, s11⟩ := hS'
                go_simp
                with_reducible rfl
              rotate_left
              · simp only [Act.put, List.setIfInBounds_toArray, List.set_cons_zero, List.set_cons_succ, i64_w, i32_w]
                rfl
              refine one_ (i := 1) (N := some 29) #[true, true, true, false, false, false, false, false, false, false, false, false, false, false, false, false, false, false, false, false, false, false, false, false, false] rfl rfl (by kernel_rfl) (by decide) (fun K hK => ?_)
              obtain ⟨t270, HA271, H⟩ := bind_some H
              refine goes_ Tryd.func23 (by kernel_rfl) rfl #[.agg #[.int .i64 a185, .int .i64 a186, .int .i64 a187, .int .i64 a188, .int .i64 a189, .int .i64 a190, .int .i64 a191]] (by rfl) rfl rfl (by (try simp only [List.map_toArray, List.map_cons, List.map_nil]); first | done | rfl) ?_
              refine (tag_marks.calls a185 a186 a187 a188 a189 a190 a191 t270 _ ⟨HGl0.out.pass (l := []) HS.out⟩ ⟨HGl1.out.pass (l := []) HS.out⟩ ⟨Sep.start _⟩ HA271).mono ?_
              rintro e_ w272 ⟨rfl, hS⟩
              replace HS : Aside0 (Sep (fps []) w [b1 g192 a185 a186 a187 a188 a189 a190 a191] w272) := ⟨HS.out.call hS⟩
              clear hS
              refine ⟨_, rfl, ?_⟩
              refine hK.out _ _ (⟨blk_cellv (HS.out.at0) 0 rfl, blk_cellv (HS.out.at0) 1 rfl, blk_cellv (HS.out.at0) 2 rfl, blk_cellv (HS.out.at0) 3 rfl, blk_cellv (HS.out.at0) 4 rfl, blk_cellv (HS.out.at0) 5 rfl, blk_cellv (HS.out.at0) 6 rfl, Gl.cell HGl0.out HS.out.fr 0 rfl, Gl.cell HGl0.out HS.out.fr 1 rfl, Gl.cell HGl0.out HS.out.fr 2 rfl, Gl.cell HGl0.out HS.out.fr 3 rfl, Gl.cell HGl0.out HS.out.fr 4 rfl⟩) (fun hHeld => ?_)
              clear hK K
              refine norm_ (a' := ?_) ?_ ?_
              rotate_left
              · show Act.put _ (some 29) _ = _
                simp only [Act.put, List.setIfInBounds_toArray, List.set_cons_zero, List.set_cons_succ, i64_w, i32_w]
                rfl
              obtain ⟨b274, HA275, H⟩ := bind_some H
              have eb273 : ∀ w, (Op.equalIn 10000 51 (.agg #[.int .i64 t270.1, .int .i64 t270.2.1, .int .i64 t270.2.2.1, .int .i64 t270.2.2.2.1, .int .i64 t270.2.2.2.2]) (.agg #[.int .i64 0, .int .i64 0, .int .i64 0, .int .i64 0, .int .i64 0])).run Tryd.prog w = .ok b274 w := some_eq HA275 ▸ run_eq_ints 9998 51 3 5 .i64 [t270.1, t270.2.1, t270.2.2.1, t270.2.2.2.1, t270.2.2.2.2] [0, 0, 0, 0, 0] Tryd.underlying51 (by kernel_rfl) (by kernel_rfl) Tryd.underlying3 (fun _ => by kernel_rfl) rfl rfl
              refine pure_ (i := 3) (N := some 31) (v := ?_) (a' := ?_) #[true, true, true, true, false, false, false, false, false, false, false, false, false, false, false, false, false, false, false, false, false, false, false, false, false] rfl rfl (by kernel_rfl) (fun _ _ _ h => h) (Or.inl ⟨by rfl, ?_⟩) ?_ ?_
              rotate_left
              · intro w'
                go_simp
                with_reducible rfl
              rotate_left
              · simp only [Act.put, List.setIfInBounds_toArray, List.set_cons_zero, List.set_cons_succ, i64_w, i32_w]
                rfl
              refine pure_ (i := 4) (N := some 32) (v := ?_) (a' := ?_) #[true, true, true, true, true, false, false, false, false, false, false, false, false, false, false, false, false, false, false, false, false, false, false, false, false] rfl rfl (by kernel_rfl) (fun _ _ _ h => h) (Or.inl ⟨by rfl, ?_⟩) ?_ ?_
              rotate_left
              · intro w'
                go_simp
                with_reducible rfl
              rotate_left
              · simp only [Act.put, List.setIfInBounds_toArray, List.set_cons_zero, List.set_cons_succ, i64_w, i32_w]
                rfl
              by_cases c276 : b274 = true
              · replace H := if_yes c276 H
                have c276b0 : b274 = true := c276
                have c276b1 : (!b274) = false := by rw [c276b0]; rfl
                clear c276
                try simp only [c276b0, Bool.not_true, Bool.not_false]
                refine pure_ (i := 5) (N := some 33) (v := ?_) (a' := ?_) #[true, true, true, true, true, true, false, false, false, false, false, false, false, false, false, false, false, false, false, false, false, false, false, false, false] rfl rfl (by kernel_rfl) (fun _ _ _ h => h) (Or.inl ⟨by rfl, ?_⟩) ?_ ?_
                rotate_left
                · intro w'
                  go_simp
                  with_reducible rfl
                rotate_left
                · simp only [Act.put, List.setIfInBounds_toArray, List.set_cons_zero, List.set_cons_succ, i64_w, i32_w]
                  rfl
                try simp only [c276b0, Bool.not_true, Bool.not_false]
                refine take_ (i := 6) (N := some 34) (v := ?_) (a' := ?_) #[true, true, true, true, true, true, true, false, false, false, false, false, false, false, false, false, false, false, false, false, false, false, false, false, false] rfl rfl (by kernel_rfl) (fun _ _ _ h => h) (Or.inl ⟨by rfl, ?_⟩) hHeld ?_ ?_
                rotate_left
                · rintro w' hS'
                  obtain ⟨s0, s1, s2, s3, s4, s5, s6, s7, s8, s9, s10, s11⟩ := hS'
                  go_simp
                  with_reducible rfl
                rotate_left
                · simp only [Act.put, List.setIfInBounds_toArray, List.set_cons_zero, List.set_cons_succ, i64_w, i32_w]
                  rfl
                try simp only [c276b0, Bool.not_true, Bool.not_false]
                refine pure_ (i := 7) (N := some 35) (v := ?_) (a' := ?_) #[true, true, true, true, true, true, true, true, false, false, false, false, false, false, false, false, false, false, false, false, false, false, false, false, false] rfl rfl (by kernel_rfl) (fun _ _ _ h => h) (Or.inl ⟨by rfl, ?_⟩) ?_ ?_
                rotate_left
                · intro w'
                  go_simp
                  with_reducible rfl
                rotate_left
                · simp only [Act.put, List.setIfInBounds_toArray, List.set_cons_zero, List.set_cons_succ, i64_w, i32_w]
                  rfl
                refine pure_ (i := 8) (N := some 36) (v := ?_) (a' := ?_) #[true, true, true, true, true, true, true, true, true, false, false, false, false, false, false, false, false, false, false, false, false, false, false, false, false] rfl rfl (by kernel_rfl) (fun _ _ _ h => h) (Or.inl ⟨by rfl, ?_⟩) ?_ ?_
                rotate_left
                · intro w'
                  go_simp
                  with_reducible rfl
                rotate_left
                · simp only [Act.put, List.setIfInBounds_toArray, List.set_cons_zero, List.set_cons_succ, i64_w, i32_w]
                  rfl
                refine pure_ (i := 9) (N := some 37) (v := ?_) (a' := ?_) #[true, true, true, true, true, true, true, true, true, true, false, false, false, false, false, false, false, false, false, false, false, false, false, false, false] rfl rfl (by kernel_rfl) (fun _ _ _ h => h) (Or.inl ⟨by rfl, ?_⟩) ?_ ?_
                rotate_left
                · intro w'
                  go_simp
                  with_reducible rfl
                rotate_left
                · simp only [Act.put, List.setIfInBounds_toArray, List.set_cons_zero, List.set_cons_succ, i64_w, i32_w]
                  rfl
                by_cases c277 : a191 ≥ 0
                · replace H := if_yes c277 H
                  have c277b0 : decide (0 ≤ a191) = true := decide_eq_true c277
                  clear c277
                  try simp only [c277b0, Bool.not_true, Bool.not_false]
                  refine pure_ (i := 10) (N := some 38) (v := ?_) (a' := ?_) #[true, true, true, true, true, true, true, true, true, true, true, false, false, false, false, false, false, false, false, false, false, false, false, false, false] rfl rfl (by kernel_rfl) (fun _ _ _ h => h) (Or.inl ⟨by rfl, ?_⟩) ?_ ?_
                  rotate_left
                  · intro w'
                    go_simp
                    with_reducible rfl
                  rotate_left
                  · simp only [Act.put, List.setIfInBounds_toArray, List.set_cons_zero, List.set_cons_succ, i64_w, i32_w]
                    rfl
                  try simp only [c277b0, Bool.not_true, Bool.not_false]
                  refine take_ (i := 11) (N := some 39) (v := ?_) (a' := ?_) #[true, true, true, true, true, true, true, true, true, true, true, true, false, false, false, false, false, false, false, false, false, false, false, false, false] rfl rfl (by kernel_rfl) (fun _ _ _ h => h) (Or.inl ⟨by rfl, ?_⟩) hHeld ?_ ?_
                  rotate_left
                  · rintro w' hS'
                    obtain ⟨s0, s1, s2, s3, s4, s5, s6, s7, s8, s9, s10, s11⟩ := hS'
                    go_simp
                    with_reducible rfl
                  rotate_left
                  · simp only [Act.put, List.setIfInBounds_toArray, List.set_cons_zero, List.set_cons_succ, i64_w, i32_w]
                    rfl
                  try simp only [c277b0, Bool.not_true, Bool.not_false]
                  refine pure_ (i := 12) (N := some 40) (v := ?_) (a' := ?_) #[true, true, true, true, true, true, true, true, true, true, true, true, true, false, false, false, false, false, false, false, false, false, false, false, false] rfl rfl (by kernel_rfl) (fun _ _ _ h => h) (Or.inl ⟨by rfl, ?_⟩) ?_ ?_
                  rotate_left
                  · intro w'
                    go_simp
                    with_reducible rfl
                  rotate_left
                  · simp only [Act.put, List.setIfInBounds_toArray, List.set_cons_zero, List.set_cons_succ, i64_w, i32_w]
                    rfl
                  refine pure_ (i := 13) (N := some 41) (v := ?_) (a' := ?_) #[true, true, true, true, true, true, true, true, true, true, true, true, true, true, false, false, false, false, false, false, false, false, false, false, false] rfl rfl (by kernel_rfl) (fun _ _ _ h => h) (Or.inl ⟨by rfl, ?_⟩) ?_ ?_
                  rotate_left
                  · intro w'
                    go_simp
                    with_reducible rfl
                  rotate_left
                  · simp only [Act.put, List.setIfInBounds_toArray, List.set_cons_zero, List.set_cons_succ, i64_w, i32_w]
                    rfl
                  refine pure_ (i := 14) (N := some 42) (v := ?_) (a' := ?_) #[true, true, true, true, true, true, true, true, true, true, true, true, true, true, true, false, false, false, false, false, false, false, false, false, false] rfl rfl (by kernel_rfl) (fun _ _ _ h => h) (Or.inl ⟨by rfl, ?_⟩) ?_ ?_
                  rotate_left
                  · intro w'
                    go_simp
                    with_reducible rfl
                  rotate_left
                  · simp only [Act.put, List.setIfInBounds_toArray, List.set_cons_zero, List.set_cons_succ, i64_w, i32_w]
                    rfl
                  by_cases c278 : a191 < 1048576
                  · replace H := if_yes c278 H
                    have c278b0 : decide (a191 < 1048576) = true := decide_eq_true c278
                    clear c278
                    try simp only [c278b0, Bool.not_true, Bool.not_false]
                    refine pure_ (i := 15) (N := some 43) (v := ?_) (a' := ?_) #[true, true, true, true, true, true, true, true, true, true, true, true, true, true, true, true, false, false, false, false, false, false, false, false, false] rfl rfl (by kernel_rfl) (fun _ _ _ h => h) (Or.inl ⟨by rfl, ?_⟩) ?_ ?_
                    rotate_left
                    · intro w'
                      go_simp
                      with_reducible rfl
                    rotate_left
                    · simp only [Act.put, List.setIfInBounds_toArray, List.set_cons_zero, List.set_cons_succ, i64_w, i32_w]
                      rfl
                    try simp only [c278b0, Bool.not_true, Bool.not_false]
                    refine take_ (i := 16) (N := some 44) (v := ?_) (a' := ?_) #[true, true, true, true, true, true, true, true, true, true, true, true, true, true, true, true, true, false, false, false, false, false, false, false, false] rfl rfl (by kernel_rfl) (fun _ _ _ h => h) (Or.inl ⟨by rfl, ?_⟩) hHeld ?_ ?_
                    rotate_left
                    · rintro w' hS'
                      obtain ⟨s0, s1, s2, s3, s4, s5, s6, s7, s8, s9, s10, s11⟩ := hS'
                      go_simp
                      with_reducible rfl
                    rotate_left
                    · simp only [Act.put, List.setIfInBounds_toArray, List.set_cons_zero, List.set_cons_succ, i64_w, i32_w]
                      rfl
                    try simp only [c278b0, Bool.not_true, Bool.not_false]
                    refine pure_ (i := 17) (N := some 45) (v := ?_) (a' := ?_) #[true, true, true, true, true, true, true, true, true, true, true, true, true, true, true, true, true, true, false, false, false, false, false, false, false] rfl rfl (by kernel_rfl) (fun _ _ _ h => h) (Or.inl ⟨by rfl, ?_⟩) ?_ ?_
                    rotate_left
                    · intro w'
                      go_simp
                      with_reducible rfl
                    rotate_left
                    · simp only [Act.put, List.setIfInBounds_toArray, List.set_cons_zero, List.set_cons_succ, i64_w, i32_w]
                      rfl
                    try simp only [c278b0, Bool.not_true, Bool.not_false]
                    refine pure_ (i := 18) (N := some 46) (v := ?_) (a' := ?_) #[true, true, true, true, true, true, true, true, true, true, true, true, true, true, true, true, true, true, true, false, false, false, false, false, false] rfl rfl (by kernel_rfl) (fun _ _ _ h => h) (Or.inl ⟨by rfl, ?_⟩) ?_ ?_
                    rotate_left
                    · intro w'
                      go_simp
                      with_reducible rfl
                    rotate_left
                    · simp only [Act.put, List.setIfInBounds_toArray, List.set_cons_zero, List.set_cons_succ, i64_w, i32_w]
                      rfl
                    by_cases c279 : a185 = 3
                    · replace H := if_yes c279 H
                      have c279b0 : (a185 == 3) = true := beq_iff_eq.mpr c279
                      have c279b1 : (a185 != 3) = false := bne_eq_false_iff_eq.mpr c279
                      clear c279
                      try simp only [c279b0, Bool.not_true, Bool.not_false]
                      refine pure_ (i := 19) (N := some 47) (v := undef) (a' := ?_) #[true, true, true, true, true, true, true, true, true, true, true, true, true, true, true, true, true, true, true, true, false, false, false, false, false] rfl rfl (by kernel_rfl) (fun _ _ _ h => h) (Or.inr ⟨by rfl, rfl⟩) ?_ ?_
                      rotate_left
                      · simp only [Act.put, List.setIfInBounds_toArray, List.set_cons_zero, List.set_cons_succ, i64_w, i32_w]
                        rfl
                      try simp only [c279b0, Bool.not_true, Bool.not_false]
                      refine pure_ (i := 20) (N := some 48) (v := undef) (a' := ?_) #[true, true, true, true, true, true, true, true, true, true, true, true, true, true, true, true, true, true, true, true, true, false, false, false, false] rfl rfl (by kernel_rfl) (fun _ _ _ h => h) (Or.inr ⟨by rfl, rfl⟩) ?_ ?_
                      rotate_left
                      · simp only [Act.put, List.setIfInBounds_toArray, List.set_cons_zero, List.set_cons_succ, i64_w, i32_w]
                        rfl
                      try simp only [c279b0, Bool.not_true, Bool.not_false]
                      refine pure_ (i := 21) (N := some 49) (v := undef) (a' := ?_) #[true, true, true, true, true, true, true, true, true, true, true, true, true, true, true, true, true, true, true, true, true, true, false, false, false] rfl rfl (by kernel_rfl) (fun _ _ _ h => h) (Or.inr ⟨by rfl, rfl⟩) ?_ ?_
                      rotate_left
                      · simp only [Act.put, List.setIfInBounds_toArray, List.set_cons_zero, List.set_cons_succ, i64_w, i32_w]
                        rfl
                      try simp only [c278b0, Bool.not_true, Bool.not_false]
                      refine pure_ (i := 22) (N := some 50) (v := ?_) (a' := ?_) #[true, true, true, true, true, true, true, true, true, true, true, true, true, true, true, true, true, true, true, true, true, true, true, false, false] rfl rfl (by kernel_rfl) (fun _ _ _ h => h) (Or.inl ⟨by rfl, ?_⟩) ?_ ?_
                      rotate_left
                      · intro w'
                        go_simp
                        with_reducible rfl
                      rotate_left
                      · simp only [Act.put, List.setIfInBounds_toArray, List.set_cons_zero, List.set_cons_succ, i64_w, i32_w]
                        rfl
                      refine pure_ (i := 23) (N := some 51) (v := ?_) (a' := ?_) #[true, true, true, true, true, true, true, true, true, true, true, true, true, true, true, true, true, true, true, true, true, true, true, true, false] rfl rfl (by kernel_rfl) (fun _ _ _ h => h) (Or.inl ⟨by rfl, ?_⟩) ?_ ?_
                      rotate_left
                      · intro w'
                        go_simp
                        with_reducible rfl
                      rotate_left
                      · simp only [Act.put, List.setIfInBounds_toArray, List.set_cons_zero, List.set_cons_succ, i64_w, i32_w]
                        rfl
                      refine pure_ (i := 24) (N := some 2) (v := ?_) (a' := ?_) #[true, true, true, true, true, true, true, true, true, true, true, true, true, true, true, true, true, true, true, true, true, true, true, true, true] rfl rfl (by kernel_rfl) (fun _ _ _ h => h) (Or.inl ⟨by rfl, ?_⟩) ?_ ?_
                      rotate_left
                      · intro w'
                        go_simp
                        with_reducible rfl
                      rotate_left
                      · simp only [Act.put, List.setIfInBounds_toArray, List.set_cons_zero, List.set_cons_succ, i64_w, i32_w]
                        rfl
                      refine done_ (by kernel_rfl) ?_
                      replace HS : Aside0 (Sep (fps []) w [] w272) := ⟨HS.out.sub (.cons _ .slnil)⟩
                      go_wp2_with fail
                      go_ret
                      rw [← some_eq H]
                      exact ⟨(by first | rfl | (simp [IntKind.wrap_u32]; done)), HS.out⟩
                    · replace H := if_no c279 H
                      have c279b0 : (a185 == 3) = false := beq_eq_false_iff_ne.mpr c279
                      have c279b1 : (a185 != 3) = true := bne_iff_ne.mpr c279
                      clear c279
                      try simp only [c279b0, Bool.not_true, Bool.not_false]
                      refine pure_ (i := 19) (N := some 47) (v := ?_) (a' := ?_) #[true, true, true, true, true, true, true, true, true, true, true, true, true, true, true, true, true, true, true, true, false, false, false, false, false] rfl rfl (by kernel_rfl) (fun _ _ _ h => h) (Or.inl ⟨by rfl, ?_⟩) ?_ ?_
                      rotate_left
                      · intro w'
                        go_simp
                        with_reducible rfl
                      rotate_left
                      · simp only [Act.put, List.setIfInBounds_toArray, List.set_cons_zero, List.set_cons_succ, i64_w, i32_w]
                        rfl
                      try simp only [c279b0, Bool.not_true, Bool.not_false]
                      refine take_ (i := 20) (N := some 48) (v := ?_) (a' := ?_) #[true, true, true, true, true, true, true, true, true, true, true, true, true, true, true, true, true, true, true, true, true, false, false, false, false] rfl rfl (by kernel_rfl) (fun _ _ _ h => h) (Or.inl ⟨by rfl, ?_⟩) hHeld ?_ ?_
                      rotate_left
                      · rintro w' hS'
                        obtain ⟨s0, s1, s2, s3, s4, s5, s6, s7, s8, s9, s10, s11⟩ := hS'
                        go_simp
                        with_reducible rfl
                      rotate_left
                      · simp only [Act.put, List.setIfInBounds_toArray, List.set_cons_zero, List.set_cons_succ, i64_w, i32_w]
                        rfl
                      try simp only [c279b0, Bool.not_true, Bool.not_false]
                      refine pure_ (i := 21) (N := some 49) (v := ?_) (a' := ?_) #[true, true, true, true, true, true, true, true, true, true, true, true, true, true, true, true, true, true, true, true, true, true, false, false, false] rfl rfl (by kernel_rfl) (fun _ _ _ h => h) (Or.inl ⟨by rfl, ?_⟩) ?_ ?_
                      rotate_left
                      · intro w'
                        go_simp
                        with_reducible rfl
                      rotate_left
                      · simp only [Act.put, List.setIfInBounds_toArray, List.set_cons_zero, List.set_cons_succ, i64_w, i32_w]
                        rfl
                      try simp only [c278b0, Bool.not_true, Bool.not_false]
                      refine pure_ (i := 22) (N := some 50) (v := ?_) (a' := ?_) #[true, true, true, true, true, true, true, true, true, true, true, true, true, true, true, true, true, true, true, true, true, true, true, false, false] rfl rfl (by kernel_rfl) (fun _ _ _ h => h) (Or.inl ⟨by rfl, ?_⟩) ?_ ?_
                      rotate_left
                      · intro w'
                        go_simp
                        with_reducible rfl
                      rotate_left
                      · simp only [Act.put, List.setIfInBounds_toArray, List.set_cons_zero, List.set_cons_succ, i64_w, i32_w]
                        rfl
                      refine pure_ (i := 23) (N := some 51) (v := ?_) (a' := ?_) #[true, true, true, true, true, true, true, true, true, true, true, true, true, true, true, true, true, true, true, true, true, true, true, true, false] rfl rfl (by kernel_rfl) (fun _ _ _ h => h) (Or.inl ⟨by rfl, ?_⟩) ?_ ?_
                      rotate_left
                      · intro w'
                        go_simp
                        with_reducible rfl
                      rotate_left
                      · simp only [Act.put, List.setIfInBounds_toArray, List.set_cons_zero, List.set_cons_succ, i64_w, i32_w]
                        rfl
                      refine pure_ (i := 24) (N := some 2) (v := ?_) (a' := ?_) #[true, true, true, true, true, true, true, true, true, true, true, true, true, true, true, true, true, true, true, true, true, true, true, true, true] rfl rfl (by kernel_rfl) (fun _ _ _ h => h) (Or.inl ⟨by rfl, ?_⟩) ?_ ?_
                      rotate_left
                      · intro w'
                        go_simp
                        with_reducible rfl
                      rotate_left
                      · simp only [Act.put, List.setIfInBounds_toArray, List.set_cons_zero, List.set_cons_succ, i64_w, i32_w]
                        rfl
                      refine done_ (by kernel_rfl) ?_
                      replace HS : Aside0 (Sep (fps []) w [] w272) := ⟨HS.out.sub (.cons _ .slnil)⟩
                      go_wp2_with fail
                      go_ret
                      rw [← some_eq H]
                      exact ⟨(by first | rfl | (simp [IntKind.wrap_u32]; done)), HS.out⟩
                  · replace H := if_no c278 H
                    have c278b0 : decide (a191 < 1048576) = false := decide_eq_false c278
                    clear c278
                    try simp only [c278b0, Bool.not_true, Bool.not_false]
                    refine pure_ (i := 15) (N := some 43) (v := undef) (a' := ?_) #[true, true, true, true, true, true, true, true, true, true, true, true, true, true, true, true, false, false, false, false, false, false, false, false, false] rfl rfl (by kernel_rfl) (fun _ _ _ h => h) (Or.inr ⟨by rfl, rfl⟩) ?_ ?_
                    rotate_left
                    · simp only [Act.put, List.setIfInBounds_toArray, List.set_cons_zero, List.set_cons_succ, i64_w, i32_w]
                      rfl
                    try simp only [c278b0, Bool.not_true, Bool.not_false]
                    refine pure_ (i := 16) (N := some 44) (v := undef) (a' := ?_) #[true, true, true, true, true, true, true, true, true, true, true, true, true, true, true, true, true, false, false, false, false, false, false, false, false] rfl rfl (by kernel_rfl) (fun _ _ _ h => h) (Or.inr ⟨by rfl, rfl⟩) ?_ ?_
                    rotate_left
                    · simp only [Act.put, List.setIfInBounds_toArray, List.set_cons_zero, List.set_cons_succ, i64_w, i32_w]
                      rfl
                    try simp only [c278b0, Bool.not_true, Bool.not_false]
                    refine pure_ (i := 17) (N := some 45) (v := undef) (a' := ?_) #[true, true, true, true, true, true, true, true, true, true, true, true, true, true, true, true, true, true, false, false, false, false, false, false, false] rfl rfl (by kernel_rfl) (fun _ _ _ h => h) (Or.inr ⟨by rfl, rfl⟩) ?_ ?_
                    rotate_left
                    · simp only [Act.put, List.setIfInBounds_toArray, List.set_cons_zero, List.set_cons_succ, i64_w, i32_w]
                      rfl
                    try simp only [c278b0, Bool.not_true, Bool.not_false]
                    refine pure_ (i := 18) (N := some 46) (v := undef) (a' := ?_) #[true, true, true, true, true, true, true, true, true, true, true, true, true, true, true, true, true, true, true, false, false, false, false, false, false] rfl rfl (by kernel_rfl) (fun _ _ _ h => h) (Or.inr ⟨by rfl, rfl⟩) ?_ ?_
                    rotate_left
                    · simp only [Act.put, List.setIfInBounds_toArray, List.set_cons_zero, List.set_cons_succ, i64_w, i32_w]
                      rfl
                    refine pure_ (i := 19) (N := some 47) (v := undef) (a' := ?_) #[true, true, true, true, true, true, true, true, true, true, true, true, true, true, true, true, true, true, true, true, false, false, false, false, false] rfl rfl (by kernel_rfl) (fun _ _ _ h => h) (Or.inr ⟨by rfl, rfl⟩) ?_ ?_
                    rotate_left
                    · simp only [Act.put, List.setIfInBounds_toArray, List.set_cons_zero, List.set_cons_succ, i64_w, i32_w]
                      rfl
                    refine pure_ (i := 20) (N := some 48) (v := undef) (a' := ?_) #[true, true, true, true, true, true, true, true, true, true, true, true, true, true, true, true, true, true, true, true, true, false, false, false, false] rfl rfl (by kernel_rfl) (fun _ _ _ h => h) (Or.inr ⟨by rfl, rfl⟩) ?_ ?_
                    rotate_left
                    · simp only [Act.put, List.setIfInBounds_toArray, List.set_cons_zero, List.set_cons_succ, i64_w, i32_w]
                      rfl
                    refine pure_ (i := 21) (N := some 49) (v := undef) (a' := ?_) #[true, true, true, true, true, true, true, true, true, true, true, true, true, true, true, true, true, true, true, true, true, true, false, false, false] rfl rfl (by kernel_rfl) (fun _ _ _ h => h) (Or.inr ⟨by rfl, rfl⟩) ?_ ?_
                    rotate_left
                    · simp only [Act.put, List.setIfInBounds_toArray, List.set_cons_zero, List.set_cons_succ, i64_w, i32_w]
                      rfl
                    try simp only [c278b0, Bool.not_true, Bool.not_false]
                    refine pure_ (i := 22) (N := some 50) (v := undef) (a' := ?_) #[true, true, true, true, true, true, true, true, true, true, true, true, true, true, true, true, true, true, true, true, true, true, true, false, false] rfl rfl (by kernel_rfl) (fun _ _ _ h => h) (Or.inr ⟨by rfl, rfl⟩) ?_ ?_
                    rotate_left
                    · simp only [Act.put, List.setIfInBounds_toArray, List.set_cons_zero, List.set_cons_succ, i64_w, i32_w]
                      rfl
                    refine pure_ (i := 23) (N := some 51) (v := ?_) (a' := ?_) #[true, true, true, true, true, true, true, true, true, true, true, true, true, true, true, true, true, true, true, true, true, true, true, true, false] rfl rfl (by kernel_rfl) (fun _ _ _ h => h) (Or.inl ⟨by rfl, ?_⟩) ?_ ?_
                    rotate_left
                    · intro w'
                      go_simp
                      with_reducible rfl
                    rotate_left
                    · simp only [Act.put, List.setIfInBounds_toArray, List.set_cons_zero, List.set_cons_succ, i64_w, i32_w]
                      rfl
                    refine pure_ (i := 24) (N := some 2) (v := ?_) (a' := ?_) #[true, true, true, true, true, true, true, true, true, true, true, true, true, true, true, true, true, true, true, true, true, true, true, true, true] rfl rfl (by kernel_rfl) (fun _ _ _ h => h) (Or.inl ⟨by rfl, ?_⟩) ?_ ?_
                    rotate_left
                    · intro w'
                      go_simp
                      with_reducible rfl
                    rotate_left
                    · simp only [Act.put, List.setIfInBounds_toArray, List.set_cons_zero, List.set_cons_succ, i64_w, i32_w]
                      rfl
                    refine done_ (by kernel_rfl) ?_
                    replace HS : Aside0 (Sep (fps []) w [] w272) := ⟨HS.out.sub (.cons _ .slnil)⟩
                    go_wp2_with fail
                    go_ret
                    rw [← some_eq H]
                    exact ⟨(by first | rfl | (simp [IntKind.wrap_u32]; done)), HS.out⟩
                · replace H := if_no c277 H
                  have c277b0 : decide (0 ≤ a191) = false := decide_eq_false c277
                  clear c277
                  try simp only [c277b0, Bool.not_true, Bool.not_false]
                  refine pure_ (i := 10) (N := some 38) (v := undef) (a' := ?_) #[true, true, true, true, true, true, true, true, true, true, true, false, false, false, false, false, false, false, false, false, false, false, false, false, false] rfl rfl (by kernel_rfl) (fun _ _ _ h => h) (Or.inr ⟨by rfl, rfl⟩) ?_ ?_
                  rotate_left
                  · simp only [Act.put, List.setIfInBounds_toArray, List.set_cons_zero, List.set_cons_succ, i64_w, i32_w]
                    rfl
                  try simp only [c277b0, Bool.not_true, Bool.not_false]
                  refine pure_ (i := 11) (N := some 39) (v := undef) (a' := ?_) #[true, true, true, true, true, true, true, true, true, true, true, true, false, false, false, false, false, false, false, false, false, false, false, false, false] rfl rfl (by kernel_rfl) (fun _ _ _ h => h) (Or.inr ⟨by rfl, rfl⟩) ?_ ?_
                  rotate_left
                  · simp only [Act.put, List.setIfInBounds_toArray, List.set_cons_zero, List.set_cons_succ, i64_w, i32_w]
                    rfl
                  try simp only [c277b0, Bool.not_true, Bool.not_false]
                  refine pure_ (i := 12) (N := some 40) (v := undef) (a' := ?_) #[true, true, true, true, true, true, true, true, true, true, true, true, true, false, false, false, false, false, false, false, false, false, false, false, false] rfl rfl (by kernel_rfl) (fun _ _ _ h => h) (Or.inr ⟨by rfl, rfl⟩) ?_ ?_
                  rotate_left
                  · simp only [Act.put, List.setIfInBounds_toArray, List.set_cons_zero, List.set_cons_succ, i64_w, i32_w]
                    rfl
                  refine pure_ (i := 13) (N := some 41) (v := ?_) (a' := ?_) #[true, true, true, true, true, true, true, true, true, true, true, true, true, true, false, false, false, false, false, false, false, false, false, false, false] rfl rfl (by kernel_rfl) (fun _ _ _ h => h) (Or.inl ⟨by rfl, ?_⟩) ?_ ?_
                  rotate_left
                  · intro w'
                    go_simp
                    with_reducible rfl
                  rotate_left
                  · simp only [Act.put, List.setIfInBounds_toArray, List.set_cons_zero, List.set_cons_succ, i64_w, i32_w]
                    rfl
                  refine pure_ (i := 14) (N := some 42) (v := ?_) (a' := ?_) #[true, true, true, true, true, true, true, true, true, true, true, true, true, true, true, false, false, false, false, false, false, false, false, false, false] rfl rfl (by kernel_rfl) (fun _ _ _ h => h) (Or.inl ⟨by rfl, ?_⟩) ?_ ?_
                  rotate_left
                  · intro w'
                    go_simp
                    with_reducible rfl
                  rotate_left
                  · simp only [Act.put, List.setIfInBounds_toArray, List.set_cons_zero, List.set_cons_succ, i64_w, i32_w]
                    rfl
                  refine pure_ (i := 15) (N := some 43) (v := undef) (a' := ?_) #[true, true, true, true, true, true, true, true, true, true, true, true, true, true, true, true, false, false, false, false, false, false, false, false, false] rfl rfl (by kernel_rfl) (fun _ _ _ h => h) (Or.inr ⟨by rfl, rfl⟩) ?_ ?_
                  rotate_left
                  · simp only [Act.put, List.setIfInBounds_toArray, List.set_cons_zero, List.set_cons_succ, i64_w, i32_w]
                    rfl
                  refine pure_ (i := 16) (N := some 44) (v := undef) (a' := ?_) #[true, true, true, true, true, true, true, true, true, true, true, true, true, true, true, true, true, false, false, false, false, false, false, false, false] rfl rfl (by kernel_rfl) (fun _ _ _ h => h) (Or.inr ⟨by rfl, rfl⟩) ?_ ?_
                  rotate_left
                  · simp only [Act.put, List.setIfInBounds_toArray, List.set_cons_zero, List.set_cons_succ, i64_w, i32_w]
                    rfl
                  refine pure_ (i := 17) (N := some 45) (v := undef) (a' := ?_) #[true, true, true, true, true, true, true, true, true, true, true, true, true, true, true, true, true, true, false, false, false, false, false, false, false] rfl rfl (by kernel_rfl) (fun _ _ _ h => h) (Or.inr ⟨by rfl, rfl⟩) ?_ ?_
                  rotate_left
                  · simp only [Act.put, List.setIfInBounds_toArray, List.set_cons_zero, List.set_cons_succ, i64_w, i32_w]
                    rfl
                  refine pure_ (i := 18) (N := some 46) (v := undef) (a' := ?_) #[true, true, true, true, true, true, true, true, true, true, true, true, true, true, true, true, true, true, true, false, false, false, false, false, false] rfl rfl (by kernel_rfl) (fun _ _ _ h => h) (Or.inr ⟨by rfl, rfl⟩) ?_ ?_
                  rotate_left
                  · simp only [Act.put, List.setIfInBounds_toArray, List.set_cons_zero, List.set_cons_succ, i64_w, i32_w]
                    rfl
                  refine pure_ (i := 19) (N := some 47) (v := undef) (a' := ?_) #[true, true, true, true, true, true, true, true, true, true, true, true, true, true, true, true, true, true, true, true, false, false, false, false, false] rfl rfl (by kernel_rfl) (fun _ _ _ h => h) (Or.inr ⟨by rfl, rfl⟩) ?_ ?_
                  rotate_left
                  · simp only [Act.put, List.setIfInBounds_toArray, List.set_cons_zero, List.set_cons_succ, i64_w, i32_w]
                    rfl
                  refine pure_ (i := 20) (N := some 48) (v := undef) (a' := ?_) #[true, true, true, true, true, true, true, true, true, true, true, true, true, true, true, true, true, true, true, true, true, false, false, false, false] rfl rfl (by kernel_rfl) (fun _ _ _ h => h) (Or.inr ⟨by rfl, rfl⟩) ?_ ?_
                  rotate_left
                  · simp only [Act.put, List.setIfInBounds_toArray, List.set_cons_zero, List.set_cons_succ, i64_w, i32_w]
                    rfl
                  refine pure_ (i := 21) (N := some 49) (v := undef) (a' := ?_) #[true, true, true, true, true, true, true, true, true, true, true, true, true, true, true, true, true, true, true, true, true, true, false, false, false] rfl rfl (by kernel_rfl) (fun _ _ _ h => h) (Or.inr ⟨by rfl, rfl⟩) ?_ ?_
                  rotate_left
                  · simp only [Act.put, List.setIfInBounds_toArray, List.set_cons_zero, List.set_cons_succ, i64_w, i32_w]
                    rfl
                  refine pure_ (i := 22) (N := some 50) (v := undef) (a' := ?_) #[true, true, true, true, true, true, true, true, true, true, true, true, true, true, true, true, true, true, true, true, true, true, true, false, false] rfl rfl (by kernel_rfl) (fun _ _ _ h => h) (Or.inr ⟨by rfl, rfl⟩) ?_ ?_
                  rotate_left
                  · simp only [Act.put, List.setIfInBounds_toArray, List.set_cons_zero, List.set_cons_succ, i64_w, i32_w]
                    rfl
                  refine pure_ (i := 23) (N := some 51) (v := ?_) (a' := ?_) #[true, true, true, true, true, true, true, true, true, true, true, true, true, true, true, true, true, true, true, true, true, true, true, true, false] rfl rfl (by kernel_rfl) (fun _ _ _ h => h) (Or.inl ⟨by rfl, ?_⟩) ?_ ?_
                  rotate_left
                  · intro w'
                    go_simp
                    with_reducible rfl
                  rotate_left
                  · simp only [Act.put, List.setIfInBounds_toArray, List.set_cons_zero, List.set_cons_succ, i64_w, i32_w]
                    rfl
                  refine pure_ (i := 24) (N := some 2) (v := ?_) (a' := ?_) #[true, true, true, true, true, true, true, true, true, true, true, true, true, true, true, true, true, true, true, true, true, true, true, true, true] rfl rfl (by kernel_rfl) (fun _ _ _ h => h) (Or.inl ⟨by rfl, ?_⟩) ?_ ?_
                  rotate_left
                  · intro w'
                    go_simp
                    with_reducible rfl
                  rotate_left
                  · simp only [Act.put, List.setIfInBounds_toArray, List.set_cons_zero, List.set_cons_succ, i64_w, i32_w]
                    rfl
                  refine done_ (by kernel_rfl) ?_
                  replace HS : Aside0 (Sep (fps []) w [] w272) := ⟨HS.out.sub (.cons _ .slnil)⟩
                  go_wp2_with fail
                  go_ret
                  rw [← some_eq H]
                  exact ⟨(by first | rfl | (simp [IntKind.wrap_u32]; done)), HS.out⟩
              · replace H := if_no c276 H
                have c276b0 : b274 = false := by simpa using c276
                have c276b1 : (!b274) = true := by rw [c276b0]; rfl
                clear c276
                try simp only [c276b0, Bool.not_true, Bool.not_false]
                refine pure_ (i := 5) (N := some 33) (v := undef) (a' := ?_) #[true, true, true, true, true, true, false, false, false, false, false, false, false, false, false, false, false, false, false, false, false, false, false, false, false] rfl rfl (by kernel_rfl) (fun _ _ _ h => h) (Or.inr ⟨by rfl, rfl⟩) ?_ ?_
                rotate_left
                · simp only [Act.put, List.setIfInBounds_toArray, List.set_cons_zero, List.set_cons_succ, i64_w, i32_w]
                  rfl
                try simp only [c276b0, Bool.not_true, Bool.not_false]
                refine pure_ (i := 6) (N := some 34) (v := undef) (a' := ?_) #[true, true, true, true, true, true, true, false, false, false, false, false, false, false, false, false, false, false, false, false, false, false, false, false, false] rfl rfl (by kernel_rfl) (fun _ _ _ h => h) (Or.inr ⟨by rfl, rfl⟩) ?_ ?_
                rotate_left
                · simp only [Act.put, List.setIfInBounds_toArray, List.set_cons_zero, List.set_cons_succ, i64_w, i32_w]
                  rfl
                try simp only [c276b0, Bool.not_true, Bool.not_false]
                refine pure_ (i := 7) (N := some 35) (v := undef) (a' := ?_) #[true, true, true, true, true, true, true, true, false, false, false, false, false, false, false, false, false, false, false, false, false, false, false, false, false] rfl rfl (by kernel_rfl) (fun _ _ _ h => h) (Or.inr ⟨by rfl, rfl⟩) ?_ ?_
                rotate_left
                · simp only [Act.put, List.setIfInBounds_toArray, List.set_cons_zero, List.set_cons_succ, i64_w, i32_w]
                  rfl
                refine pure_ (i := 8) (N := some 36) (v := ?_) (a' := ?_) #[true, true, true, true, true, true, true, true, true, false, false, false, false, false, false, false, false, false, false, false, false, false, false, false, false] rfl rfl (by kernel_rfl) (fun _ _ _ h => h) (Or.inl ⟨by rfl, ?_⟩) ?_ ?_
                rotate_left
                · intro w'
                  go_simp
                  with_reducible rfl
                rotate_left
                · simp only [Act.put, List.setIfInBounds_toArray, List.set_cons_zero, List.set_cons_succ, i64_w, i32_w]
                  rfl
                refine pure_ (i := 9) (N := some 37) (v := ?_) (a' := ?_) #[true, true, true, true, true, true, true, true, true, true, false, false, false, false, false, false, false, false, false, false, false, false, false, false, false] rfl rfl (by kernel_rfl) (fun _ _ _ h => h) (Or.inl ⟨by rfl, ?_⟩) ?_ ?_
                rotate_left
                · intro w'
                  go_simp
                  with_reducible rfl
                rotate_left
                · simp only [Act.put, List.setIfInBounds_toArray, List.set_cons_zero, List.set_cons_succ, i64_w, i32_w]
                  rfl
                refine pure_ (i := 10) (N := some 38) (v := undef) (a' := ?_) #[true, true, true, true, true, true, true, true, true, true, true, false, false, false, false, false, false, false, false, false, false, false, false, false, false] rfl rfl (by kernel_rfl) (fun _ _ _ h => h) (Or.inr ⟨by rfl, rfl⟩) ?_ ?_
                rotate_left
                · simp only [Act.put, List.setIfInBounds_toArray, List.set_cons_zero, List.set_cons_succ, i64_w, i32_w]
                  rfl
                refine pure_ (i := 11) (N := some 39) (v := undef) (a' := ?_) #[true, true, true, true, true, true, true, true, true, true, true, true, false, false, false, false, false, false, false, false, false, false, false, false, false] rfl rfl (by kernel_rfl) (fun _ _ _ h => h) (Or.inr ⟨by rfl, rfl⟩) ?_ ?_
                rotate_left
                · simp only [Act.put, List.setIfInBounds_toArray, List.set_cons_zero, List.set_cons_succ, i64_w, i32_w]
                  rfl
                refine pure_ (i := 12) (N := some 40) (v := undef) (a' := ?_) #[true, true, true, true, true, true, true, true, true, true, true, true, true, false, false, false, false, false, false, false, false, false, false, false, false] rfl rfl (by kernel_rfl) (fun _ _ _ h => h) (Or.inr ⟨by rfl, rfl⟩) ?_ ?_
                rotate_left
                · simp only [Act.put, List.setIfInBounds_toArray, List.set_cons_zero, List.set_cons_succ, i64_w, i32_w]
                  rfl
                refine pure_ (i := 13) (N := some 41) (v := ?_) (a' := ?_) #[true, true, true, true, true, true, true, true, true, true, true, true, true, true, false, false, false, false, false, false, false, false, false, false, false] rfl rfl (by kernel_rfl) (fun _ _ _ h => h) (Or.inl ⟨by rfl, ?_⟩) ?_ ?_
                rotate_left
                · intro w'
                  go_simp
                  with_reducible rfl
                rotate_left
                · simp only [Act.put, List.setIfInBounds_toArray, List.set_cons_zero, List.set_cons_succ, i64_w, i32_w]
                  rfl
                refine pure_ (i := 14) (N := some 42) (v := ?_) (a' := ?_) #[true, true, true, true, true, true, true, true, true, true, true, true, true, true, true, false, false, false, false, false, false, false, false, false, false] rfl rfl (by kernel_rfl) (fun _ _ _ h => h) (Or.inl ⟨by rfl, ?_⟩) ?_ ?_
                rotate_left
                · intro w'
                  go_simp
                  with_reducible rfl
                rotate_left
                · simp only [Act.put, List.setIfInBounds_toArray, List.set_cons_zero, List.set_cons_succ, i64_w, i32_w]
                  rfl
                refine pure_ (i := 15) (N := some 43) (v := undef) (a' := ?_) #[true, true, true, true, true, true, true, true, true, true, true, true, true, true, true, true, false, false, false, false, false, false, false, false, false] rfl rfl (by kernel_rfl) (fun _ _ _ h => h) (Or.inr ⟨by rfl, rfl⟩) ?_ ?_
                rotate_left
                · simp only [Act.put, List.setIfInBounds_toArray, List.set_cons_zero, List.set_cons_succ, i64_w, i32_w]
                  rfl
                refine pure_ (i := 16) (N := some 44) (v := undef) (a' := ?_) #[true, true, true, true, true, true, true, true, true, true, true, true, true, true, true, true, true, false, false, false, false, false, false, false, false] rfl rfl (by kernel_rfl) (fun _ _ _ h => h) (Or.inr ⟨by rfl, rfl⟩) ?_ ?_
                rotate_left
                · simp only [Act.put, List.setIfInBounds_toArray, List.set_cons_zero, List.set_cons_succ, i64_w, i32_w]
                  rfl
                refine pure_ (i := 17) (N := some 45) (v := undef) (a' := ?_) #[true, true, true, true, true, true, true, true, true, true, true, true, true, true, true, true, true, true, false, false, false, false, false, false, false] rfl rfl (by kernel_rfl) (fun _ _ _ h => h) (Or.inr ⟨by rfl, rfl⟩) ?_ ?_
                rotate_left
                · simp only [Act.put, List.setIfInBounds_toArray, List.set_cons_zero, List.set_cons_succ, i64_w, i32_w]
                  rfl
                refine pure_ (i := 18) (N := some 46) (v := undef) (a' := ?_) #[true, true, true, true, true, true, true, true, true, true, true, true, true, true, true, true, true, true, true, false, false, false, false, false, false] rfl rfl (by kernel_rfl) (fun _ _ _ h => h) (Or.inr ⟨by rfl, rfl⟩) ?_ ?_
                rotate_left
                · simp only [Act.put, List.setIfInBounds_toArray, List.set_cons_zero, List.set_cons_succ, i64_w, i32_w]
                  rfl
                refine pure_ (i := 19) (N := some 47) (v := undef) (a' := ?_) #[true, true, true, true, true, true, true, true, true, true, true, true, true, true, true, true, true, true, true, true, false, false, false, false, false] rfl rfl (by kernel_rfl) (fun _ _ _ h => h) (Or.inr ⟨by rfl, rfl⟩) ?_ ?_
                rotate_left
                · simp only [Act.put, List.setIfInBounds_toArray, List.set_cons_zero, List.set_cons_succ, i64_w, i32_w]
                  rfl
                refine pure_ (i := 20) (N := some 48) (v := undef) (a' := ?_) #[true, true, true, true, true, true, true, true, true, true, true, true, true, true, true, true, true, true, true, true, true, false, false, false, false] rfl rfl (by kernel_rfl) (fun _ _ _ h => h) (Or.inr ⟨by rfl, rfl⟩) ?_ ?_
                rotate_left
                · simp only [Act.put, List.setIfInBounds_toArray, List.set_cons_zero, List.set_cons_succ, i64_w, i32_w]
                  rfl
                refine pure_ (i := 21) (N := some 49) (v := undef) (a' := ?_) #[true, true, true, true, true, true, true, true, true, true, true, true, true, true, true, true, true, true, true, true, true, true, false, false, false] rfl rfl (by kernel_rfl) (fun _ _ _ h => h) (Or.inr ⟨by rfl, rfl⟩) ?_ ?_
                rotate_left
                · simp only [Act.put, List.setIfInBounds_toArray, List.set_cons_zero, List.set_cons_succ, i64_w, i32_w]
                  rfl
                refine pure_ (i := 22) (N := some 50) (v := undef) (a' := ?_) #[true, true, true, true, true, true, true, true, true, true, true, true, true, true, true, true, true, true, true, true, true, true, true, false, false] rfl rfl (by kernel_rfl) (fun _ _ _ h => h) (Or.inr ⟨by rfl, rfl⟩) ?_ ?_
                rotate_left
                · simp only [Act.put, List.setIfInBounds_toArray, List.set_cons_zero, List.set_cons_succ, i64_w, i32_w]
                  rfl
                refine pure_ (i := 23) (N := some 51) (v := ?_) (a' := ?_) #[true, true, true, true, true, true, true, true, true, true, true, true, true, true, true, true, true, true, true, true, true, true, true, true, false] rfl rfl (by kernel_rfl) (fun _ _ _ h => h) (Or.inl ⟨by rfl, ?_⟩) ?_ ?_
                rotate_left
                · intro w'
                  go_simp
                  with_reducible rfl
                rotate_left
                · simp only [Act.put, List.setIfInBounds_toArray, List.set_cons_zero, List.set_cons_succ, i64_w, i32_w]
                  rfl
                refine pure_ (i := 24) (N := some 2) (v := ?_) (a' := ?_) #[true, true, true, true, true, true, true, true, true, true, true, true, true, true, true, true, true, true, true, true, true, true, true, true, true] rfl rfl (by kernel_rfl) (fun _ _ _ h => h) (Or.inl ⟨by rfl, ?_⟩) ?_ ?_
                rotate_left
                · intro w'
                  go_simp
                  with_reducible rfl
                rotate_left
                · simp only [Act.put, List.setIfInBounds_toArray, List.set_cons_zero, List.set_cons_succ, i64_w, i32_w]
                  rfl
                refine done_ (by kernel_rfl) ?_
                replace HS : Aside0 (Sep (fps []) w [] w272) := ⟨HS.out.sub (.cons _ .slnil)⟩
                go_wp2_with fail
                go_ret
                rw [← some_eq H]
                exact ⟨(by first | rfl | (simp [IntKind.wrap_u32]; done)), HS.out⟩
            · replace H := if_no c267 H
              have c267b0 : (a185 == 0) = false := beq_eq_false_iff_ne.mpr c267
              have c267b1 : (a185 != 0) = true := bne_iff_ne.mpr c267
              clear c267
              by_cases c280 : a185 = 3
              · replace H := if_yes c280 H
                have c280b0 : (a185 == 3) = true := beq_iff_eq.mpr c280
                have c280b1 : (a185 != 3) = false := bne_eq_false_iff_eq.mpr c280
                clear c280
                have hc262 : w253.cell? ⟨g192, 0, none⟩ = some (.int .i64 a185) := blk_cellv (HS.out.at0) 0 rfl
                go_wp2_with fail
                clear hc262
                refine start_ (n := 25) (S := (fun w' => w'.cell? ⟨g192, 0, none⟩ = some (.int .i64 a185) ∧ w'.cell? ⟨g192, 1, none⟩ = some (.int .i64 a186) ∧ w'.cell? ⟨g192, 2, none⟩ = some (.int .i64 a187) ∧ w'.cell? ⟨g192, 3, none⟩ = some (.int .i64 a188) ∧ w'.cell? ⟨g192, 4, none⟩ = some (.int .i64 a189) ∧ w'.cell? ⟨g192, 5, none⟩ = some (.int .i64 a190) ∧ w'.cell? ⟨g192, 6, none⟩ = some (.int .i64 a191) ∧ w'.cell? ⟨0, 0, none⟩ = some (.int .i64 0) ∧ w'.cell? ⟨0, 1, none⟩ = some (.int .i64 0) ∧ w'.cell? ⟨0, 2, none⟩ = some (.int .i64 0) ∧ w'.cell? ⟨0, 3, none⟩ = some (.int .i64 0) ∧ w'.cell? ⟨0, 4, none⟩ = some (.int .i64 0))) (ds := []) #[false, false, false, false, false, false, false, false, false, false, false, false, false, false, false, false, false, false, false, false, false, false, false, false, false] (by kernel_rfl) rfl rfl (⟨blk_cellv ((HS.out.drew).at0) 0 rfl, blk_cellv ((HS.out.drew).at0) 1 rfl, blk_cellv ((HS.out.drew).at0) 2 rfl, blk_cellv ((HS.out.drew).at0) 3 rfl, blk_cellv ((HS.out.drew).at0) 4 rfl, blk_cellv ((HS.out.drew).at0) 5 rfl, blk_cellv ((HS.out.drew).at0) 6 rfl, Gl.cell HGl0.out (HS.out.drew).fr 0 rfl, Gl.cell HGl0.out (HS.out.drew).fr 1 rfl, Gl.cell HGl0.out (HS.out.drew).fr 2 rfl, Gl.cell HGl0.out (HS.out.drew).fr 3 rfl, Gl.cell HGl0.out (HS.out.drew).fr 4 rfl⟩) (fun hHeld => ?_)
                have HS_ := Aside0.mk HS.out.drew
                clear HS
                generalize World.drew _ = w282 at HS_ hHeld ⊢
                have HS := HS_
                clear HS_
                refine take_ (i := 0) (N := some 28) (v := ?_) (a' := ?_) #[true, false, false, false, false, false, false, false, false, false, false, false, false, false, false, false, false, false, false, false, false, false, false, false, false] rfl rfl (by kernel_rfl) (fun _ _ _ h => h) (Or.inl ⟨by rfl, ?_⟩) hHeld ?_ ?_
                rotate_left
                · rintro w' hS'
                  obtain ⟨s0, s1, s2, s3, s4, s5, s6, s7, s8, s9, s10, s11⟩ := hS'
                  go_simp
                  with_reducible rfl
                rotate_left
                · simp only [Act.put, List.setIfInBounds_toArray, List.set_cons_zero, List.set_cons_succ, i64_w, i32_w]
                  rfl
                refine take_ (i := 2) (N := some 30) (v := ?_) (a' := ?_) #[true, false, true, false, false, false, false, false, false, false, false, false, false, false, false, false, false, false, false, false, false, false, false, false, false] rfl rfl (by kernel_rfl) (fun _ _ _ h => h) (Or.inl ⟨by rfl, ?_⟩) hHeld ?_ ?_
                rotate_left
                · rintro w' hS'
                  obtain ⟨s0, s1, s2, s3, s4, s5, s6, s7, s8, s9, s10, s11⟩ := hS'
                  go_simp
                  with_reducible rfl
                rotate_left
                · simp only [Act.put, List.setIfInBounds_toArray, List.set_cons_zero, List.set_cons_succ, i64_w, i32_w]
                  rfl
                refine one_ (i := 1) (N := some 29) #[true, true, true, false, false, false, false, false, false, false, false, false, false, false, false, false, false, false, false, false, false, false, false, false, false] rfl rfl (by kernel_rfl) (by decide) (fun K hK => ?_)
                obtain ⟨t270, HA283, H⟩ := bind_some H
                refine goes_ Tryd.func23 (by kernel_rfl) rfl #[.agg #[.int .i64 a185, .int .i64 a186, .int .i64 a187, .int .i64 a188, .int .i64 a189, .int .i64 a190, .int .i64 a191]] (by rfl) rfl rfl (by (try simp only [List.map_toArray, List.map_cons, List.map_nil]); first | done | rfl) ?_
                refine (tag_marks.calls a185 a186 a187 a188 a189 a190 a191 t270 _ ⟨HGl0.out.pass (l := []) HS.out⟩ ⟨HGl1.out.pass (l := []) HS.out⟩ ⟨Sep.start _⟩ HA283).mono ?_
                rintro e_ w284 ⟨rfl, hS⟩
                replace HS : Aside0 (Sep (fps []) w [b1 g192 a185 a186 a187 a188 a189 a190 a191] w284) := ⟨HS.out.call hS⟩
                clear hS
                refine ⟨_, rfl, ?_⟩
                refine hK.out _ _ (⟨blk_cellv (HS.out.at0) 0 rfl, blk_cellv (HS.out.at0) 1 rfl, blk_cellv (HS.out.at0) 2 rfl, blk_cellv (HS.out.at0) 3 rfl, blk_cellv (HS.out.at0) 4 rfl, blk_cellv (HS.out.at0) 5 rfl, blk_cellv (HS.out.at0) 6 rfl, Gl.cell HGl0.out HS.out.fr 0 rfl, Gl.cell HGl0.out HS.out.fr 1 rfl, Gl.cell HGl0.out HS.out.fr 2 rfl, Gl.cell HGl0.out HS.out.fr 3 rfl, Gl.cell HGl0.out HS.out.fr 4 rfl⟩) (fun hHeld => ?_)
                clear hK K
                refine norm_ (a' := ?_) ?_ ?_
                rotate_left
                · show Act.put _ (some 29) _ = _
                  simp only [Act.put, List.setIfInBounds_toArray, List.set_cons_zero, List.set_cons_succ, i64_w, i32_w]
                  rfl
                obtain ⟨b274, HA286, H⟩ := bind_some H
                have eb285 : ∀ w, (Op.equalIn 10000 51 (.agg #[.int .i64 t270.1, .int .i64 t270.2.1, .int .i64 t270.2.2.1, .int .i64 t270.2.2.2.1, .int .i64 t270.2.2.2.2]) (.agg #[.int .i64 0, .int .i64 0, .int .i64 0, .int .i64 0, .int .i64 0])).run Tryd.prog w = .ok b274 w := some_eq HA286 ▸ run_eq_ints 9998 51 3 5 .i64 [t270.1, t270.2.1, t270.2.2.1, t270.2.2.2.1, t270.2.2.2.2] [0, 0, 0, 0, 0] Tryd.underlying51 (by kernel_rfl) (by kernel_rfl) Tryd.underlying3 (fun _ => by kernel_rfl) rfl rfl
                refine pure_ (i := 3) (N := some 31) (v := ?_) (a' := ?_) #[true, true, true, true, false, false, false, false, false, false, false, false, false, false, false, false, false, false, false, false, false, false, false, false, false] rfl rfl (by kernel_rfl) (fun _ _ _ h => h) (Or.inl ⟨by rfl, ?_⟩) ?_ ?_
                rotate_left
                · intro w'
                  go_simp
                  with_reducible rfl
                rotate_left
                · simp only [Act.put, List.setIfInBounds_toArray, List.set_cons_zero, List.set_cons_succ, i64_w, i32_w]
                  rfl
                refine pure_ (i := 4) (N := some 32) (v := ?_) (a' := ?_) #[true, true, true, true, true, false, false, false, false, false, false, false, false, false, false, false, false, false, false, false, false, false, false, false, false] rfl rfl (by kernel_rfl) (fun _ _ _ h => h) (Or.inl ⟨by rfl, ?_⟩) ?_ ?_
                rotate_left
                · intro w'
                  go_simp
                  with_reducible rfl
                rotate_left
                · simp only [Act.put, List.setIfInBounds_toArray, List.set_cons_zero, List.set_cons_succ, i64_w, i32_w]
                  rfl
                by_cases c287 : b274 = true
                · replace H := if_yes c287 H
                  have c287b0 : b274 = true := c287
                  have c287b1 : (!b274) = false := by rw [c287b0]; rfl
                  clear c287
                  try simp only [c287b0, Bool.not_true, Bool.not_false]
                  refine pure_ (i := 5) (N := some 33) (v := ?_) (a' := ?_) #[true, true, true, true, true, true, false, false, false, false, false, false, false, false, false, false, false, false, false, false, false, false, false, false, false] rfl rfl (by kernel_rfl) (fun _ _ _ h => h) (Or.inl ⟨by rfl, ?_⟩) ?_ ?_
                  rotate_left
                  · intro w'
                    go_simp
                    with_reducible rfl
                  rotate_left
                  · simp only [Act.put, List.setIfInBounds_toArray, List.set_cons_zero, List.set_cons_succ, i64_w, i32_w]
                    rfl
                  try simp only [c287b0, Bool.not_true, Bool.not_false]
                  refine take_ (i := 6) (N := some 34) (v := ?_) (a' := ?_) #[true, true, true, true, true, true, true, false, false, false, false, false, false, false, false, false, false, false, false, false, false, false, false, false, false] rfl rfl (by kernel_rfl) (fun _ _ _ h => h) (Or.inl ⟨by rfl, ?_⟩) hHeld ?_ ?_
                  rotate_left
                  · rintro w' hS'
                    obtain ⟨s0, s1, s2, s3, s4, s5, s6, s7, s8, s9, s10, s11⟩ := hS'
                    go_simp
                    with_reducible rfl
                  rotate_left
                  · simp only [Act.put, List.setIfInBounds_toArray, List.set_cons_zero, List.set_cons_succ, i64_w, i32_w]
                    rfl
                  try simp only [c287b0, Bool.not_true, Bool.not_false]
                  refine pure_ (i := 7) (N := some 35) (v := ?_) (a' := ?_) #[true, true, true, true, true, true, true, true, false, false, false, false, false, false, false, false, false, false, false, false, false, false, false, false, false] rfl rfl (by kernel_rfl) (fun _ _ _ h => h) (Or.inl ⟨by rfl, ?_⟩) ?_ ?_
                  rotate_left
                  · intro w'
                    go_simp
                    with_reducible rfl
                  rotate_left
                  · simp only [Act.put, List.setIfInBounds_toArray, List.set_cons_zero, List.set_cons_succ, i64_w, i32_w]
                    rfl
                  refine pure_ (i := 8) (N := some 36) (v := ?_) (a' := ?_) #[true, true, true, true, true, true, true, true, true, false, false, false, false, false, false, false, false, false, false, false, false, false, false, false, false] rfl rfl (by kernel_rfl) (fun _ _ _ h => h) (Or.inl ⟨by rfl, ?_⟩) ?_ ?_
                  rotate_left
                  · intro w'
                    go_simp
                    with_reducible rfl
                  rotate_left
                  · simp only [Act.put, List.setIfInBounds_toArray, List.set_cons_zero, List.set_cons_succ, i64_w, i32_w]
                    rfl
                  refine pure_ (i := 9) (N := some 37) (v := ?_) (a' := ?_) #[true, true, true, true, true, true, true, true, true, true, false, false, false, false, false, false, false, false, false, false, false, false, false, false, false] rfl rfl (by kernel_rfl) (fun _ _ _ h => h) (Or.inl ⟨by rfl, ?_⟩) ?_ ?_
                  rotate_left
                  · intro w'
                    go_simp
                    with_reducible rfl
                  rotate_left
                  · simp only [Act.put, List.setIfInBounds_toArray, List.set_cons_zero, List.set_cons_succ, i64_w, i32_w]
                    rfl
                  by_cases c288 : a191 ≥ 0
                  · replace H := if_yes c288 H
                    have c288b0 : decide (0 ≤ a191) = true := decide_eq_true c288
                    clear c288
                    try simp only [c288b0, Bool.not_true, Bool.not_false]
                    refine pure_ (i := 10) (N := some 38) (v := ?_) (a' := ?_) #[true, true, true, true, true, true, true, true, true, true, true, false, false, false, false, false, false, false, false, false, false, false, false, false, false] rfl rfl (by kernel_rfl) (fun _ _ _ h => h) (Or.inl ⟨by rfl, ?_⟩) ?_ ?_
                    rotate_left
                    · intro w'
                      go_simp
                      with_reducible rfl
                    rotate_left
                    · simp only [Act.put, List.setIfInBounds_toArray, List.set_cons_zero, List.set_cons_succ, i64_w, i32_w]
                      rfl
                    try simp only [c288b0, Bool.not_true, Bool.not_false]
                    refine take_ (i := 11) (N := some 39) (v := ?_) (a' := ?_) #[true, true, true, true, true, true, true, true, true, true, true, true, false, false, false, false, false, false, false, false, false, false, false, false, false] rfl rfl (by kernel_rfl) (fun _ _ _ h => h) (Or.inl ⟨by rfl, ?_⟩) hHeld ?_ ?_
                    rotate_left
                    · rintro w' hS'
                      obtain ⟨s0, s1, s2, s3, s4, s5, s6, s7, s8, s9, s10, s11⟩ := hS'
                      go_simp
                      with_reducible rfl
                    rotate_left
                    · simp only [Act.put, List.setIfInBounds_toArray, List.set_cons_zero, List.set_cons_succ, i64_w, i32_w]
                      rfl
                    try simp only [c288b0, Bool.not_true, Bool.not_false]
                    refine pure_ (i := 12) (N := some 40) (v := ?_) (a' := ?_) #[true, true, true, true, true, true, true, true, true, true, true, true, true, false, false, false, false, false, false, false, false, false, false, false, false] rfl rfl (by kernel_rfl) (fun _ _ _ h => h) (Or.inl ⟨by rfl, ?_⟩) ?_ ?_
                    rotate_left
                    · intro w'
                      go_simp
                      with_reducible rfl
                    rotate_left
                    · simp only [Act.put, List.setIfInBounds_toArray, List.set_cons_zero, List.set_cons_succ, i64_w, i32_w]
                      rfl
                    refine pure_ (i := 13) (N := some 41) (v := ?_) (a' := ?_) #[true, true, true, true, true, true, true, true, true, true, true, true, true, true, false, false, false, false, false, false, false, false, false, false, false] rfl rfl (by kernel_rfl) (fun _ _ _ h => h) (Or.inl ⟨by rfl, ?_⟩) ?_ ?_
                    rotate_left
                    · intro w'
                      go_simp
                      with_reducible rfl
                    rotate_left
                    · simp only [Act.put, List.setIfInBounds_toArray, List.set_cons_zero, List.set_cons_succ, i64_w, i32_w]
                      rfl
                    refine pure_ (i := 14) (N := some 42) (v := ?_) (a' := ?_) #[true, true, true, true, true, true, true, true, true, true, true, true, true, true, true, false, false, false, false, false, false, false, false, false, false] rfl rfl (by kernel_rfl) (fun _ _ _ h => h) (Or.inl ⟨by rfl, ?_⟩) ?_ ?_
                    rotate_left
                    · intro w'
                      go_simp
                      with_reducible rfl
                    rotate_left
                    · simp only [Act.put, List.setIfInBounds_toArray, List.set_cons_zero, List.set_cons_succ, i64_w, i32_w]
                      rfl
                    by_cases c289 : a191 < 1048576
                    · replace H := if_yes c289 H
                      have c289b0 : decide (a191 < 1048576) = true := decide_eq_true c289
                      clear c289
                      try simp only [c289b0, Bool.not_true, Bool.not_false]
                      refine pure_ (i := 15) (N := some 43) (v := ?_) (a' := ?_) #[true, true, true, true, true, true, true, true, true, true, true, true, true, true, true, true, false, false, false, false, false, false, false, false, false] rfl rfl (by kernel_rfl) (fun _ _ _ h => h) (Or.inl ⟨by rfl, ?_⟩) ?_ ?_
                      rotate_left
                      · intro w'
                        go_simp
                        with_reducible rfl
                      rotate_left
                      · simp only [Act.put, List.setIfInBounds_toArray, List.set_cons_zero, List.set_cons_succ, i64_w, i32_w]
                        rfl
                      try simp only [c289b0, Bool.not_true, Bool.not_false]
                      refine take_ (i := 16) (N := some 44) (v := ?_) (a' := ?_) #[true, true, true, true, true, true, true, true, true, true, true, true, true, true, true, true, true, false, false, false, false, false, false, false, false] rfl rfl (by kernel_rfl) (fun _ _ _ h => h) (Or.inl ⟨by rfl, ?_⟩) hHeld ?_ ?_
                      rotate_left
                      · rintro w' hS'
                        obtain ⟨s0, s1, s2, s3, s4, s5, s6, s7, s8, s9, s10, s11⟩ := hS'
                        go_simp
                        with_reducible rfl
                      rotate_left
                      · simp only [Act.put, List.setIfInBounds_toArray, List.set_cons_zero, List.set_cons_succ, i64_w, i32_w]
                        rfl
                      try simp only [c289b0, Bool.not_true, Bool.not_false]
                      refine pure_ (i := 17) (N := some 45) (v := ?_) (a' := ?_) #[true, true, true, true, true, true, true, true, true, true, true, true, true, true, true, true, true, true, false, false, false, false, false, false, false] rfl rfl (by kernel_rfl) (fun _ _ _ h => h) (Or.inl ⟨by rfl, ?_⟩) ?_ ?_
                      rotate_left
                      · intro w'
                        go_simp
                        with_reducible rfl
                      rotate_left
                      · simp only [Act.put, List.setIfInBounds_toArray, List.set_cons_zero, List.set_cons_succ, i64_w, i32_w]
                        rfl
                      try simp only [c289b0, Bool.not_true, Bool.not_false]
                      refine pure_ (i := 18) (N := some 46) (v := ?_) (a' := ?_) #[true, true, true, true, true, true, true, true, true, true, true, true, true, true, true, true, true, true, true, false, false, false, false, false, false] rfl rfl (by kernel_rfl) (fun _ _ _ h => h) (Or.inl ⟨by rfl, ?_⟩) ?_ ?_
                      rotate_left
                      · intro w'
                        go_simp
                        with_reducible rfl
                      rotate_left
                      · simp only [Act.put, List.setIfInBounds_toArray, List.set_cons_zero, List.set_cons_succ, i64_w, i32_w]
                        rfl
                      try simp only [c280b0, Bool.not_true, Bool.not_false]
                      refine pure_ (i := 19) (N := some 47) (v := undef) (a' := ?_) #[true, true, true, true, true, true, true, true, true, true, true, true, true, true, true, true, true, true, true, true, false, false, false, false, false] rfl rfl (by kernel_rfl) (fun _ _ _ h => h) (Or.inr ⟨by rfl, rfl⟩) ?_ ?_
                      rotate_left
                      · simp only [Act.put, List.setIfInBounds_toArray, List.set_cons_zero, List.set_cons_succ, i64_w, i32_w]
                        rfl
                      try simp only [c280b0, Bool.not_true, Bool.not_false]
                      refine pure_ (i := 20) (N := some 48) (v := undef) (a' := ?_) #[true, true, true, true, true, true, true, true, true, true, true, true, true, true, true, true, true, true, true, true, true, false, false, false, false] rfl rfl (by kernel_rfl) (fun _ _ _ h => h) (Or.inr ⟨by rfl, rfl⟩) ?_ ?_
                      rotate_left
                      · simp only [Act.put, List.setIfInBounds_toArray, List.set_cons_zero, List.set_cons_succ, i64_w, i32_w]
                        rfl
                      try simp only [c280b0, Bool.not_true, Bool.not_false]
                      refine pure_ (i := 21) (N := some 49) (v := undef) (a' := ?_) #[true, true, true, true, true, true, true, true, true, true, true, true, true, true, true, true, true, true, true, true, true, true, false, false, false] rfl rfl (by kernel_rfl) (fun _ _ _ h => h) (Or.inr ⟨by rfl, rfl⟩) ?_ ?_
                      rotate_left
                      · simp only [Act.put, List.setIfInBounds_toArray, List.set_cons_zero, List.set_cons_succ, i64_w, i32_w]
                        rfl
                      try simp only [c289b0, Bool.not_true, Bool.not_false]
                      refine pure_ (i := 22) (N := some 50) (v := ?_) (a' := ?_) #[true, true, true, true, true, true, true, true, true, true, true, true, true, true, true, true, true, true, true, true, true, true, true, false, false] rfl rfl (by kernel_rfl) (fun _ _ _ h => h) (Or.inl ⟨by rfl, ?_⟩) ?_ ?_
                      rotate_left
                      · intro w'
                        go_simp
                        with_reducible rfl
                      rotate_left
                      · simp only [Act.put, List.setIfInBounds_toArray, List.set_cons_zero, List.set_cons_succ, i64_w, i32_w]
                        rfl
                      refine pure_ (i := 23) (N := some 51) (v := ?_) (a' := ?_) #[true, true, true, true, true, true, true, true, true, true, true, true, true, true, true, true, true, true, true, true, true, true, true, true, false] rfl rfl (by kernel_rfl) (fun _ _ _ h => h) (Or.inl ⟨by rfl, ?_⟩) ?_ ?_
                      rotate_left
                      · intro w'
                        go_simp
                        with_reducible rfl
                      rotate_left
                      · simp only [Act.put, List.setIfInBounds_toArray, List.set_cons_zero, List.set_cons_succ, i64_w, i32_w]
                        rfl
                      refine pure_ (i := 24) (N := some 2) (v := ?_) (a' := ?_) #[true, true, true, true, true, true, true, true, true, true, true, true, true, true, true, true, true, true, true, true, true, true, true, true, true] rfl rfl (by kernel_rfl) (fun _ _ _ h => h) (Or.inl ⟨by rfl, ?_⟩) ?_ ?_
                      rotate_left
                      · intro w'
                        go_simp
                        with_reducible rfl
                      rotate_left
                      · simp only [Act.put, List.setIfInBounds_toArray, List.set_cons_zero, List.set_cons_succ, i64_w, i32_w]
                        rfl
                      refine done_ (by kernel_rfl) ?_
                      replace HS : Aside0 (Sep (fps []) w [] w284) := ⟨HS.out.sub (.cons _ .slnil)⟩
                      go_wp2_with fail
                      go_ret
                      rw [← some_eq H]
                      exact ⟨(by first | rfl | (simp [IntKind.wrap_u32]; done)), HS.out⟩
                    · replace H := if_no c289 H
                      have c289b0 : decide (a191 < 1048576) = false := decide_eq_false c289
                      clear c289
                      try simp only [c289b0, Bool.not_true, Bool.not_false]
                      refine pure_ (i := 15) (N := some 43) (v := undef) (a' := ?_) #[true, true, true, true, true, true, true, true, true, true, true, true, true, true, true, true, false, false, false, false, false, false, false, false, false] rfl rfl (by kernel_rfl) (fun _ _ _ h => h) (Or.inr ⟨by rfl, rfl⟩) ?_ ?_
                      rotate_left
                      · simp only [Act.put, List.setIfInBounds_toArray, List.set_cons_zero, List.set_cons_succ, i64_w, i32_w]
                        rfl
                      try simp only [c289b0, Bool.not_true, Bool.not_false]
                      refine pure_ (i := 16) (N := some 44) (v := undef) (a' := ?_) #[true, true, true, true, true, true, true, true, true, true, true, true, true, true, true, true, true, false, false, false, false, false, false, false, false] rfl rfl (by kernel_rfl) (fun _ _ _ h => h) (Or.inr ⟨by rfl, rfl⟩) ?_ ?_
                      rotate_left
                      · simp only [Act.put, List.setIfInBounds_toArray, List.set_cons_zero, List.set_cons_succ, i64_w, i32_w]
                        rfl
                      try simp only [c289b0, Bool.not_true, Bool.not_false]
                      refine pure_ (i := 17) (N := some 45) (v := undef) (a' := ?_) #[true, true, true, true, true, true, true, true, true, true, true, true, true, true, true, true, true, true, false, false, false, false, false, false, false] rfl rfl (by kernel_rfl) (fun _ _ _ h => h) (Or.inr ⟨by rfl, rfl⟩) ?_ ?_
                      rotate_left
                      · simp only [Act.put, List.setIfInBounds_toArray, List.set_cons_zero, List.set_cons_succ, i64_w, i32_w]
                        rfl
                      try simp only [c289b0, Bool.not_true, Bool.not_false]
                      refine pure_ (i := 18) (N := some 46) (v := undef) (a' := ?_) #[true, true, true, true, true, true, true, true, true, true, true, true, true, true, true, true, true, true, true, false, false, false, false, false, false] rfl rfl (by kernel_rfl) (fun _ _ _ h => h) (Or.inr ⟨by rfl, rfl⟩) ?_ ?_
                      rotate_left
                      · simp only [Act.put, List.setIfInBounds_toArray, List.set_cons_zero, List.set_cons_succ, i64_w, i32_w]
                        rfl
                      refine pure_ (i := 19) (N := some 47) (v := undef) (a' := ?_) #[true, true, true, true, true, true, true, true, true, true, true, true, true, true, true, true, true, true, true, true, false, false, false, false, false] rfl rfl (by kernel_rfl) (fun _ _ _ h => h) (Or.inr ⟨by rfl, rfl⟩) ?_ ?_
                      rotate_left
                      · simp only [Act.put, List.setIfInBounds_toArray, List.set_cons_zero, List.set_cons_succ, i64_w, i32_w]
                        rfl
                      refine pure_ (i := 20) (N := some 48) (v := undef) (a' := ?_) #[true, true, true, true, true, true, true, true, true, true, true, true, true, true, true, true, true, true, true, true, true, false, false, false, false] rfl rfl (by kernel_rfl) (fun _ _ _ h => h) (Or.inr ⟨by rfl, rfl⟩) ?_ ?_
                      rotate_left
                      · simp only [Act.put, List.setIfInBounds_toArray, List.set_cons_zero, List.set_cons_succ, i64_w, i32_w]
                        rfl
                      refine pure_ (i := 21) (N := some 49) (v := undef) (a' := ?_) #[true, true, true, true, true, true, true, true, true, true, true, true, true, true, true, true, true, true, true, true, true, true, false, false, false] rfl rfl (by kernel_rfl) (fun _ _ _ h => h) (Or.inr ⟨by rfl, rfl⟩) ?_ ?_
                      rotate_left
                      · simp only [Act.put, List.setIfInBounds_toArray, List.set_cons_zero, List.set_cons_succ, i64_w, i32_w]
                        rfl
                      try simp only [c289b0, Bool.not_true, Bool.not_false]
                      refine pure_ (i := 22) (N := some 50) (v := undef) (a' := ?_) #[true, true, true, true, true, true, true, true, true, true, true, true, true, true, true, true, true, true, true, true, true, true, true, false, false] rfl rfl (by kernel_rfl) (fun _ _ _ h => h) (Or.inr ⟨by rfl, rfl⟩) ?_ ?_
                      rotate_left
                      · simp only [Act.put, List.setIfInBounds_toArray, List.set_cons_zero, List.set_cons_succ, i64_w, i32_w]
                        rfl
                      refine pure_ (i := 23) (N := some 51) (v := ?_) (a' := ?_) #[true, true, true, true, true, true, true, true, true, true, true, true, true, true, true, true, true, true, true, true, true, true, true, true, false] rfl rfl (by kernel_rfl) (fun _ _ _ h => h) (Or.inl ⟨by rfl, ?_⟩) ?_ ?_
                      rotate_left
                      · intro w'
                        go_simp
                        with_reducible rfl
                      rotate_left
                      · simp only [Act.put, List.setIfInBounds_toArray, List.set_cons_zero, List.set_cons_succ, i64_w, i32_w]
                        rfl
                      refine pure_ (i := 24) (N := some 2) (v := ?_) (a' := ?_) #[true, true, true, true, true, true, true, true, true, true, true, true, true, true, true, true, true, true, true, true, true, true, true, true, true] rfl rfl (by kernel_rfl) (fun _ _ _ h => h) (Or.inl ⟨by rfl, ?_⟩) ?_ ?_
                      rotate_left
                      · intro w'
                        go_simp
                        with_reducible rfl
                      rotate_left
                      · simp only [Act.put, List.setIfInBounds_toArray, List.set_cons_zero, List.set_cons_succ, i64_w, i32_w]
                        rfl
                      refine done_ (by kernel_rfl) ?_
                      replace HS : Aside0 (Sep (fps []) w [] w284) := ⟨HS.out.sub (.cons _ .slnil)⟩
                      go_wp2_with fail
                      go_ret
                      rw [← some_eq H]
                      exact ⟨(by first | rfl | (simp [IntKind.wrap_u32]; done)), HS.out⟩
                  · replace H := if_no c288 H
                    have c288b0 : decide (0 ≤ a191) = false := decide_eq_false c288
                    clear c288
                    try simp only [c288b0, Bool.not_true, Bool.not_false]
                    refine pure_ (i := 10) (N := some 38) (v := undef) (a' := ?_) #[true, true, true, true, true, true, true, true, true, true, true, false, false, false, false, false, false, false, false, false, false, false, false, false, false] rfl rfl (by kernel_rfl) (fun _ _ _ h => h) (Or.inr ⟨by rfl, rfl⟩) ?_ ?_
                    rotate_left
                    · simp only [Act.put, List.setIfInBounds_toArray, List.set_cons_zero, List.set_cons_succ, i64_w, i32_w]
                      rfl
                    try simp only [c288b0, Bool.not_true, Bool.not_false]
                    refine pure_ (i := 11) (N := some 39) (v := undef) (a' := ?_) #[true, true, true, true, true, true, true, true, true, true, true, true, false, false, false, false, false, false, false, false, false, false, false, false, false] rfl rfl (by kernel_rfl) (fun _ _ _ h => h) (Or.inr ⟨by rfl, rfl⟩) ?_ ?_
                    rotate_left
                    · simp only [Act.put, List.setIfInBounds_toArray, List.set_cons_zero, List.set_cons_succ, i64_w, i32_w]
                      rfl
                    try simp only [c288b0, Bool.not_true, Bool.not_false]
                    refine pure_ (i := 12) (N := some 40) (v := undef) (a' := ?_) #[true, true, true, true, true, true, true, true, true, true, true, true, true, false, false, false, false, false, false, false, false, false, false, false, false] rfl rfl (by kernel_rfl) (fun _ _ _ h => h) (Or.inr ⟨by rfl, rfl⟩) ?_ ?_
                    rotate_left
                    · simp only [Act.put, List.setIfInBounds_toArray, List.set_cons_zero, List.set_cons_succ, i64_w, i32_w]
                      rfl
                    refine pure_ (i := 13) (N := some 41) (v := ?_) (a' := ?_) #[true, true, true, true, true, true, true, true, true, true, true, true, true, true, false, false, false, false, false, false, false, false, false, false, false] rfl rfl (by kernel_rfl) (fun _ _ _ h => h) (Or.inl ⟨by rfl, ?_⟩) ?_ ?_
                    rotate_left
                    · intro w'
                      go_simp
                      with_reducible rfl
                    rotate_left
                    · simp only [Act.put, List.setIfInBounds_toArray, List.set_cons_zero, List.set_cons_succ, i64_w, i32_w]
                      rfl
                    refine pure_ (i := 14) (N := some 42) (v := ?_) (a' := ?_) #[true, true, true, true, true, true, true, true, true, true, true, true, true, true, true, false, false, false, false, false, false, false, false, false, false] rfl rfl (by kernel_rfl) (fun _ _ _ h => h) (Or.inl ⟨by rfl, ?_⟩) ?_ ?_
                    rotate_left
                    · intro w'
                      go_simp
                      with_reducible rfl
                    rotate_left
                    · simp only [Act.put, List.setIfInBounds_toArray, List.set_cons_zero, List.set_cons_succ, i64_w, i32_w]
                      rfl
                    refine pure_ (i := 15) (N := some 43) (v := undef) (a' := ?_) #[true, true, true, true, true, true, true, true, true, true, true, true, true, true, true, true, false, false, false, false, false, false, false, false, false] rfl rfl (by kernel_rfl) (fun _ _ _ h => h) (Or.inr ⟨by rfl, rfl⟩) ?_ ?_
                    rotate_left
                    · simp only [Act.put, List.setIfInBounds_toArray, List.set_cons_zero, List.set_cons_succ, i64_w, i32_w]
                      rfl
                    refine pure_ (i := 16) (N := some 44) (v := undef) (a' := ?_) #[true, true, true, true, true, true, true, true, true, true, true, true, true, true, true, true, true, false, false, false, false, false, false, false, false] rfl rfl (by kernel_rfl) (fun _ _ _ h => h) (Or.inr ⟨by rfl, rfl⟩) ?_ ?_
                    rotate_left
                    · simp only [Act.put, List.setIfInBounds_toArray, List.set_cons_zero, List.set_cons_succ, i64_w, i32_w]
                      rfl
                    refine pure_ (i := 17) (N := some 45) (v := undef) (a' := ?_) #[true, true, true, true, true, true, true, true, true, true, true, true, true, true, true, true, true, true, false, false, false, false, false, false, false] rfl rfl (by kernel_rfl) (fun _ _ _ h => h) (Or.inr ⟨by rfl, rfl⟩) ?_ ?_
                    rotate_left
                    · simp only [Act.put, List.setIfInBounds_toArray, List.set_cons_zero, List.set_cons_succ, i64_w, i32_w]
                      rfl
                    refine pure_ (i := 18) (N := some 46) (v := undef) (a' := ?_) #[true, true, true, true, true, true, true, true, true, true, true, true, true, true, true, true, true, true, true, false, false, false, false, false, false] rfl rfl (by kernel_rfl) (fun _ _ _ h => h) (Or.inr ⟨by rfl, rfl⟩) ?_ ?_
                    rotate_left
                    · simp only [Act.put, List.setIfInBounds_toArray, List.set_cons_zero, List.set_cons_succ, i64_w, i32_w]
                      rfl
                    refine pure_ (i := 19) (N := some 47) (v := undef) (a' := ?_) #[true, true, true, true, true, true, true, true, true, true, true, true, true, true, true, true, true, true, true, true, false, false, false, false, false] rfl rfl (by kernel_rfl) (fun _ _ _ h => h) (Or.inr ⟨by rfl, rfl⟩) ?_ ?_
                    rotate_left
                    · simp only [Act.put, List.setIfInBounds_toArray, List.set_cons_zero, List.set_cons_succ, i64_w, i32_w]
                      rfl
                    refine pure_ (i := 20) (N := some 48) (v := undef) (a' := ?_) #[true, true, true, true, true, true, true, true, true, true, true, true, true, true, true, true, true, true, true, true, true, false, false, false, false] rfl rfl (by kernel_rfl) (fun _ _ _ h => h) (Or.inr ⟨by rfl, rfl⟩) ?_ ?_
                    rotate_left
                    · simp only [Act.put, List.setIfInBounds_toArray, List.set_cons_zero, List.set_cons_succ, i64_w, i32_w]
                      rfl
                    refine pure_ (i := 21) (N := some 49) (v := undef) (a' := ?_) #[true, true, true, true, true, true, true, true, true, true, true, true, true, true, true, true, true, true, true, true, true, true, false, false, false] rfl rfl (by kernel_rfl) (fun _ _ _ h => h) (Or.inr ⟨by rfl, rfl⟩) ?_ ?_
                    rotate_left
                    · simp only [Act.put, List.setIfInBounds_toArray, List.set_cons_zero, List.set_cons_succ, i64_w, i32_w]
                      rfl
                    refine pure_ (i := 22) (N := some 50) (v := undef) (a' := ?_) #[true, true, true, true, true, true, true, true, true, true, true, true, true, true, true, true, true, true, true, true, true, true, true, false, false] rfl rfl (by kernel_rfl) (fun _ _ _ h => h) (Or.inr ⟨by rfl, rfl⟩) ?_ ?_
                    rotate_left
                    · simp only [Act.put, List.setIfInBounds_toArray, List.set_cons_zero, List.set_cons_succ, i64_w, i32_w]
                      rfl
                    refine pure_ (i := 23) (N := some 51) (v := ?_) (a' := ?_) #[true, true, true, true, true, true, true, true, true, true, true, true, true, true, true, true, true, true, true, true, true, true, true, true, false] rfl rfl (by kernel_rfl) (fun _ _ _ h => h) (Or.inl ⟨by rfl, ?_⟩) ?_ ?_
                    rotate_left
                    · intro w'
                      go_simp
                      with_reducible rfl
                    rotate_left
                    · simp only [Act.put, List.setIfInBounds_toArray, List.set_cons_zero, List.set_cons_succ, i64_w, i32_w]
                      rfl
                    refine pure_ (i := 24) (N := some 2) (v := ?_) (a' := ?_) #[true, true, true, true, true, true, true, true, true, true, true, true, true, true, true, true, true, true, true, true, true, true, true, true, true] rfl rfl (by kernel_rfl) (fun _ _ _ h => h) (Or.inl ⟨by rfl, ?_⟩) ?_ ?_
                    rotate_left
                    · intro w'
                      go_simp
                      with_reducible rfl
                    rotate_left
                    · simp only [Act.put, List.setIfInBounds_toArray, List.set_cons_zero, List.set_cons_succ, i64_w, i32_w]
                      rfl
                    refine done_ (by kernel_rfl) ?_
                    replace HS : Aside0 (Sep (fps []) w [] w284) := ⟨HS.out.sub (.cons _ .slnil)⟩
                    go_wp2_with fail
                    go_ret
                    rw [← some_eq H]
                    exact ⟨(by first | rfl | (simp [IntKind.wrap_u32]; done)), HS.out⟩
                · replace H := if_no c287 H
                  have c287b0 : b274 = false := by simpa using c287
                  have c287b1 : (!b274) = true := by rw [c287b0]; rfl
                  clear c287
                  try simp only [c287b0, Bool.not_true, Bool.not_false]
                  refine pure_ (i := 5) (N := some 33) (v := undef) (a' := ?_) #[true, true, true, true, true, true, false, false, false, false, false, false, false, false, false, false, false, false, false, false, false, false, false, false, false] rfl rfl (by kernel_rfl) (fun _ _ _ h => h) (Or.inr ⟨by rfl, rfl⟩) ?_ ?_
                  rotate_left
                  · simp only [Act.put, List.setIfInBounds_toArray, List.set_cons_zero, List.set_cons_succ, i64_w, i32_w]
                    rfl
                  try simp only [c287b0, Bool.not_true, Bool.not_false]
                  refine pure_ (i := 6) (N := some 34) (v := undef) (a' := ?_) #[true, true, true, true, true, true, true, false, false, false, false, false, false, false, false, false, false, false, false, false, false, false, false, false, false] rfl rfl (by kernel_rfl) (fun _ _ _ h => h) (Or.inr ⟨by rfl, rfl⟩) ?_ ?_
                  rotate_left
                  · simp only [Act.put, List.setIfInBounds_toArray, List.set_cons_zero, List.set_cons_succ, i64_w, i32_w]
                    rfl
                  try simp only [c287b0, Bool.not_true, Bool.not_false]
                  refine pure_ (i := 7) (N := some 35) (v := undef) (a' := ?_) #[true, true, true, true, true, true, true, true, false, false, false, false, false, false, false, false, false, false, false, false, false, false, false, false, false] rfl rfl (by kernel_rfl) (fun _ _ _ h => h) (Or.inr ⟨by rfl, rfl⟩) ?_ ?_
                  rotate_left
                  · simp only [Act.put, List.setIfInBounds_toArray, List.set_cons_zero, List.set_cons_succ, i64_w, i32_w]
                    rfl
                  refine pure_ (i := 8) (N := some 36) (v := ?_) (a' := ?_) #[true, true, true, true, true, true, true, true, true, false, false, false, false, false, false, false, false, false, false, false, false, false, false, false, false] rfl rfl (by kernel_rfl) (fun _ _ _ h => h) (Or.inl ⟨by rfl, ?_⟩) ?_ ?_
                  rotate_left
                  · intro w'
                    go_simp
                    with_reducible rfl
                  rotate_left
                  · simp only [Act.put, List.setIfInBounds_toArray, List.set_cons_zero, List.set_cons_succ, i64_w, i32_w]
                    rfl
                  refine pure_ (i := 9) (N := some 37) (v := ?_) (a' := ?_) #[true, true, true, true, true, true, true, true, true, true, false, false, false, false, false, false, false, false, false, false, false, false, false, false, false] rfl rfl (by kernel_rfl) (fun _ _ _ h => h) (Or.inl ⟨by rfl, ?_⟩) ?_ ?_
                  rotate_left
                  · intro w'
                    go_simp
                    with_reducible rfl
                  rotate_left
                  · simp only [Act.put, List.setIfInBounds_toArray, List.set_cons_zero, List.set_cons_succ, i64_w, i32_w]
                    rfl
                  refine pure_ (i := 10) (N := some 38) (v := undef) (a' := ?_) #[true, true, true, true, true, true, true, true, true, true, true, false, false, false, false, false, false, false, false, false, false, false, false, false, false] rfl rfl (by kernel_rfl) (fun _ _ _ h => h) (Or.inr ⟨by rfl, rfl⟩) ?_ ?_
                  rotate_left
                  · simp only [Act.put, List.setIfInBounds_toArray, List.set_cons_zero, List.set_cons_succ, i64_w, i32_w]
                    rfl
                  refine pure_ (i := 11) (N := some 39) (v := undef) (a' := ?_) #[true, true, true, true, true, true, true, true, true, true, true, true, false, false, false, false, false, false, false, false, false, false, false, false, false] rfl rfl (by kernel_rfl) (fun _ _ _ h => h) (Or.inr ⟨by rfl, rfl⟩) ?_ ?_
                  rotate_left
                  · simp only [Act.put, List.setIfInBounds_toArray, List.set_cons_zero, List.set_cons_succ, i64_w, i32_w]
                    rfl
                  refine pure_ (i := 12) (N := some 40) (v := undef) (a' := ?_) #[true, true, true, true, true, true, true, true, true, true, true, true, true, false, false, false, false, false, false, false, false, false, false, false, false] rfl rfl (by kernel_rfl) (fun _ _ _ h => h) (Or.inr ⟨by rfl, rfl⟩) ?_ ?_
                  rotate_left
                  · simp only [Act.put, List.setIfInBounds_toArray, List.set_cons_zero, List.set_cons_succ, i64_w, i32_w]
                    rfl
                  refine pure_ (i := 13) (N := some 41) (v := ?_) (a' := ?_) #[true, true, true, true, true, true, true, true, true, true, true, true, true, true, false, false, false, false, false, false, false, false, false, false, false] rfl rfl (by kernel_rfl) (fun _ _ _ h => h) (Or.inl ⟨by rfl, ?_⟩) ?_ ?_
                  rotate_left
                  · intro w'
                    go_simp
                    with_reducible rfl
                  rotate_left
                  · simp only [Act.put, List.setIfInBounds_toArray, List.set_cons_zero, List.set_cons_succ, i64_w, i32_w]
                    rfl
                  refine pure_ (i := 14) (N := some 42) (v := ?_) (a' := ?_) #[true, true, true, true, true, true, true, true, true, true, true, true, true, true, true, false, false, false, false, false, false, false, false, false, false] rfl rfl (by kernel_rfl) (fun _ _ _ h => h) (Or.inl ⟨by rfl, ?_⟩) ?_ ?_
                  rotate_left
                  · intro w'
                    go_simp
                    with_reducible rfl
                  rotate_left
                  · simp only [Act.put, List.setIfInBounds_toArray, List.set_cons_zero, List.set_cons_succ, i64_w, i32_w]
                    rfl
                  refine pure_ (i := 15) (N := some 43) (v := undef) (a' := ?_) #[true, true, true, true, true, true, true, true, true, true, true, true, true, true, true, true, false, false, false, false, false, false, false, false, false] rfl rfl (by kernel_rfl) (fun _ _ _ h => h) (Or.inr ⟨by rfl, rfl⟩) ?_ ?_
                  rotate_left
                  · simp only [Act.put, List.setIfInBounds_toArray, List.set_cons_zero, List.set_cons_succ, i64_w, i32_w]
                    rfl
                  refine pure_ (i := 16) (N := some 44) (v := undef) (a' := ?_) #[true, true, true, true, true, true, true, true, true, true, true, true, true, true, true, true, true, false, false, false, false, false, false, false, false] rfl rfl (by kernel_rfl) (fun _ _ _ h => h) (Or.inr ⟨by rfl, rfl⟩) ?_ ?_
                  rotate_left
                  · simp only [Act.put, List.setIfInBounds_toArray, List.set_cons_zero, List.set_cons_succ, i64_w, i32_w]
                    rfl
                  refine pure_ (i := 17) (N := some 45) (v := undef) (a' := ?_) #[true, true, true, true, true, true, true, true, true, true, true, true, true, true, true, true, true, true, false, false, false, false, false, false, false] rfl rfl (by kernel_rfl) (fun _ _ _ h => h) (Or.inr ⟨by rfl, rfl⟩) ?_ ?_
                  rotate_left
                  · simp only [Act.put, List.setIfInBounds_toArray, List.set_cons_zero, List.set_cons_succ, i64_w, i32_w]
                    rfl
                  refine pure_ (i := 18) (N := some 46) (v := undef) (a' := ?_) #[true, true, true, true, true, true, true, true, true, true, true, true, true, true, true, true, true, true, true, false, false, false, false, false, false] rfl rfl (by kernel_rfl) (fun _ _ _ h => h) (Or.inr ⟨by rfl, rfl⟩) ?_ ?_
                  rotate_left
                  · simp only [Act.put, List.setIfInBounds_toArray, List.set_cons_zero, List.set_cons_succ, i64_w, i32_w]
                    rfl
                  refine pure_ (i := 19) (N := some 47) (v := undef) (a' := ?_) #[true, true, true, true, true, true, true, true, true, true, true, true, true, true, true, true, true, true, true, true, false, false, false, false, false] rfl rfl (by kernel_rfl) (fun _ _ _ h => h) (Or.inr ⟨by rfl, rfl⟩) ?_ ?_
                  rotate_left
                  · simp only [Act.put, List.setIfInBounds_toArray, List.set_cons_zero, List.set_cons_succ, i64_w, i32_w]
                    rfl
                  refine pure_ (i := 20) (N := some 48) (v := undef) (a' := ?_) #[true, true, true, true, true, true, true, true, true, true, true, true, true, true, true, true, true, true, true, true, true, false, false, false, false] rfl rfl (by kernel_rfl) (fun _ _ _ h => h) (Or.inr ⟨by rfl, rfl⟩) ?_ ?_
                  rotate_left
                  · simp only [Act.put, List.setIfInBounds_toArray, List.set_cons_zero, List.set_cons_succ, i64_w, i32_w]
                    rfl
                  refine pure_ (i := 21) (N := some 49) (v := undef) (a' := ?_) #[true, true, true, true, true, true, true, true, true, true, true, true, true, true, true, true, true, true, true, true, true, true, false, false, false] rfl rfl (by kernel_rfl) (fun _ _ _ h => h) (Or.inr ⟨by rfl, rfl⟩) ?_ ?_
                  rotate_left
                  · simp only [Act.put, List.setIfInBounds_toArray, List.set_cons_zero, List.set_cons_succ, i64_w, i32_w]
                    rfl
                  refine pure_ (i := 22) (N := some 50) (v := undef) (a' := ?_) #[true, true, true, true, true, true, true, true, true, true, true, true, true, true, true, true, true, true, true, true, true, true, true, false, false] rfl rfl (by kernel_rfl) (fun _ _ _ h => h) (Or.inr ⟨by rfl, rfl⟩) ?_ ?_
                  rotate_left
                  · simp only [Act.put, List.setIfInBounds_toArray, List.set_cons_zero, List.set_cons_succ, i64_w, i32_w]
                    rfl
                  refine pure_ (i := 23) (N := some 51) (v := ?_) (a' := ?_) #[true, true, true, true, true, true, true, true, true, true, true, true, true, true, true, true, true, true, true, true, true, true, true, true, false] rfl rfl (by kernel_rfl) (fun _ _ _ h => h) (Or.inl ⟨by rfl, ?_⟩) ?_ ?_
                  rotate_left
                  · intro w'
                    go_simp
                    with_reducible rfl
                  rotate_left
                  · simp only [Act.put, List.setIfInBounds_toArray, List.set_cons_zero, List.set_cons_succ, i64_w, i32_w]
                    rfl
                  refine pure_ (i := 24) (N := some 2) (v := ?_) (a' := ?_) #[true, true, true, true, true, true, true, true, true, true, true, true, true, true, true, true, true, true, true, true, true, true, true, true, true] rfl rfl (by kernel_rfl) (fun _ _ _ h => h) (Or.inl ⟨by rfl, ?_⟩) ?_ ?_
                  rotate_left
                  · intro w'
                    go_simp
                    with_reducible rfl
                  rotate_left
                  · simp only [Act.put, List.setIfInBounds_toArray, List.set_cons_zero, List.set_cons_succ, i64_w, i32_w]
                    rfl
                  refine done_ (by kernel_rfl) ?_
                  replace HS : Aside0 (Sep (fps []) w [] w284) := ⟨HS.out.sub (.cons _ .slnil)⟩
                  go_wp2_with fail
                  go_ret
                  rw [← some_eq H]
                  exact ⟨(by first | rfl | (simp [IntKind.wrap_u32]; done)), HS.out⟩
              · replace H := if_no c280 H
                have c280b0 : (a185 == 3) = false := beq_eq_false_iff_ne.mpr c280
                have c280b1 : (a185 != 3) = true := bne_iff_ne.mpr c280
                clear c280
                have hc262 : w253.cell? ⟨g192, 0, none⟩ = some (.int .i64 a185) := blk_cellv (HS.out.at0) 0 rfl
                replace HS : Aside0 (Sep (fps []) w [] w253) := ⟨HS.out.sub (.cons _ .slnil)⟩
                go_wp2_with fail
                clear hc262
                go_ret
                rw [← some_eq H]
                exact ⟨(by first | rfl | (simp [IntKind.wrap_u32]; done)), HS.out⟩

set_option maxHeartbeats 30000000 in
set_option maxRecDepth 100000 in
theorem pack_total.calls (k : Nat) (l383 : List Int) (A384 : Option Addr) (n385 : Nat) (r : Int) (w : World) (HR386 : Aside0 (Rd (Kd.int .i64) (fps []) w A384 l383.length l383)) (HGl0 : Aside0 (Gl 0 #[.int .i64 0, .int .i64 0, .int .i64 0, .int .i64 0, .int .i64 0] (fps []) w)) (HGl1 : Aside0 (Gl 1 #[.string (⟨#[102, 114, 101, 101]⟩), .string (⟨#[115, 109, 97, 108, 108]⟩), .string (⟨#[115, 112, 105, 110, 101]⟩), .string (⟨#[108, 101, 97, 102]⟩)] (fps []) w)) (HS : Aside0 (Sep (fps []) w [] w)) (H : Aside0 (pack_total.f k l383 = some r)) :
    Calls Tryd.prog 39 #[.slice A384 l383.length n385] w fun e w' => e = .returned (.int .i64 r) ∧ Sep (fps []) w [] w' := by
  unfold pack_total.f at H
  go_enter Tryd.func39, Tryd.ntmps39
  go_wp2_with fail
  obtain ⟨o399, AL400, H⟩ := bind_some H
  go_loopg [3, 8] k (fun kq v3 v8 wc => ∃ (x403 : Int) (x404 : Int), v3 = .int .i64 x403 ∧ v8 = .int .i64 x404 ∧ Aside0 (pack_total.lo0 kq l383 x403 x404 = some o399) ∧ Aside0 (Sep (fps []) w [] wc))
  case atStart => exact ⟨(0), (0), (by first | rfl | (simp [IntKind.wrap_u32]; done)), (by first | rfl | (simp [IntKind.wrap_u32]; done)), AL400, ⟨HS.out⟩⟩
  case round =>
    clear AL400 HS
    obtain ⟨x403, x404, rfl, rfl, AL400, HS⟩ := hrel
    obtain ⟨w401, rfl⟩ : ∃ x : World, x = wr := ⟨_, rfl⟩
    cases gk with
    | zero => exact absurd AL400.out (by simp [pack_total.lo0])
    | succ k402 =>
      have AL0 := AL400.out
      rw [pack_total.lo0] at AL0
      clear AL400
      have AL400 := Aside0.mk AL0
      clear AL0
      by_cases c405 : x404 < (l383.length : Int)
      · replace AL400 := if_yes c405 AL400
        have c405b0 : decide (x404 < (l383.length : Int)) = true := decide_eq_true c405
        clear c405
        by_cases c406 : 0 ≤ x404
        · replace AL400 := if_yes c406 AL400
          have c406b0 : decide (0 ≤ x404) = true := decide_eq_true c406
          have c406p : (0 ≤ x404) = True := eq_true c406
          clear c406
          have ip407 : (x404 < (l383.length : Int)) = True := eq_true (of_decide_eq_true c405b0)
          by_cases c409 : (rd l383 x404) < 1
          · replace AL400 := if_yes c409 AL400
            have c409b0 : decide ((rd l383 x404) < 1) = true := decide_eq_true c409
            clear c409
            obtain ⟨hx408a, hx408e, hx408⟩ := Kd.at_int (Rd.read (fun _ _ _ _ h => h) HR386.out HS.out.fr) x404 (of_decide_eq_true c406b0) (of_decide_eq_true c405b0); cases hx408e
            go_wp2_with fail
            clear hx408
            have ho := some_eq AL400
            subst ho
            have H := lp_ret H
            go_ret
            rw [← some_eq H]
            exact ⟨(by first | rfl | (simp [IntKind.wrap_u32]; done)), HS.out⟩
          · replace AL400 := if_no c409 AL400
            have c409b0 : decide ((rd l383 x404) < 1) = false := decide_eq_false c409
            clear c409
            by_cases c410 : (rd l383 x404) > (wrap64 (32 - x403))
            · replace AL400 := if_yes c410 AL400
              have c410b0 : decide ((wrap64 (32 - x403)) < (rd l383 x404)) = true := decide_eq_true c410
              clear c410
              obtain ⟨hx408a, hx408e, hx408⟩ := Kd.at_int (Rd.read (fun _ _ _ _ h => h) HR386.out HS.out.fr) x404 (of_decide_eq_true c406b0) (of_decide_eq_true c405b0); cases hx408e
              go_wp2_with fail
              clear hx408
              have ho := some_eq AL400
              subst ho
              have H := lp_ret H
              go_ret
              rw [← some_eq H]
              exact ⟨(by first | rfl | (simp [IntKind.wrap_u32]; done)), HS.out⟩
            · replace AL400 := if_no c410 AL400
              have c410b0 : decide ((wrap64 (32 - x403)) < (rd l383 x404)) = false := decide_eq_false c410
              clear c410
              obtain ⟨hx408a, hx408e, hx408⟩ := Kd.at_int (Rd.read (fun _ _ _ _ h => h) HR386.out HS.out.fr) x404 (of_decide_eq_true c406b0) (of_decide_eq_true c405b0); cases hx408e
              go_wp2_with fail
              clear hx408
              go_roundg k402
              case measure => exact Nat.lt_succ_self _
              case rel => exact ⟨(wrap64 (x403 + (rd l383 x404))), (wrap64 (x404 + 1)), (by first | rfl | (simp [IntKind.wrap_u32]; done)), (by first | rfl | (simp [IntKind.wrap_u32]; done)), Aside0.mk AL400.out, ⟨HS.out⟩⟩
        · replace AL400 := if_no c406 AL400
          have c406b0 : decide (0 ≤ x404) = false := decide_eq_false c406
          clear c406
          exact (none_no AL400).elim
      · replace AL400 := if_no c405 AL400
        have c405b0 : decide (x404 < (l383.length : Int)) = false := decide_eq_false c405
        clear c405
        have ho := some_eq AL400
        subst ho
        clear AL400
        have H := lp_out H
        go_wp2_with fail
        go_ret
        rw [← some_eq H]
        exact ⟨(by first | rfl | (simp [IntKind.wrap_u32]; done)), HS.out⟩

set_option maxHeartbeats 30000000 in
set_option maxRecDepth 100000 in
theorem pack_isPiece.calls (a435 : Int) (a436 : Int) (r : Bool) (w : World)  (HGl0 : Aside0 (Gl 0 #[.int .i64 0, .int .i64 0, .int .i64 0, .int .i64 0, .int .i64 0] (fps []) w)) (HGl1 : Aside0 (Gl 1 #[.string (⟨#[102, 114, 101, 101]⟩), .string (⟨#[115, 109, 97, 108, 108]⟩), .string (⟨#[115, 112, 105, 110, 101]⟩), .string (⟨#[108, 101, 97, 102]⟩)] (fps []) w)) (HS : Aside0 (Sep (fps []) w [] w)) (H : Aside0 (pack_isPiece.f a435 a436 = some r)) :
    Calls Tryd.prog 46 #[.int .i64 a435, .int .i64 a436] w fun e w' => e = .returned (.bool r) ∧ Sep (fps []) w [] w' := by
  unfold pack_isPiece.f at H
  go_enter Tryd.func46, Tryd.ntmps46
  by_cases c437 : a435 ≥ 0
  · replace H := if_yes c437 H
    have c437b0 : decide (0 ≤ a435) = true := decide_eq_true c437
    clear c437
    by_cases c438 : a436 ≥ 1
    · replace H := if_yes c438 H
      have c438b0 : decide (1 ≤ a436) = true := decide_eq_true c438
      clear c438
      by_cases c439 : a436 ≤ 32
      · replace H := if_yes c439 H
        have c439b0 : decide (a436 ≤ 32) = true := decide_eq_true c439
        clear c439
        go_wp2_with fail
        go_ret
        rw [← some_eq H]
        exact ⟨(by first | rfl | (simp [IntKind.wrap_u32]; done)), HS.out⟩
      · replace H := if_no c439 H
        have c439b0 : decide (a436 ≤ 32) = false := decide_eq_false c439
        clear c439
        go_wp2_with fail
        go_ret
        rw [← some_eq H]
        exact ⟨(by first | rfl | (simp [IntKind.wrap_u32]; done)), HS.out⟩
    · replace H := if_no c438 H
      have c438b0 : decide (1 ≤ a436) = false := decide_eq_false c438
      clear c438
      go_wp2_with fail
      go_ret
      rw [← some_eq H]
      exact ⟨(by first | rfl | (simp [IntKind.wrap_u32]; done)), HS.out⟩
  · replace H := if_no c437 H
    have c437b0 : decide (0 ≤ a435) = false := decide_eq_false c437
    clear c437
    go_wp2_with fail
    go_ret
    rw [← some_eq H]
    exact ⟨(by first | rfl | (simp [IntKind.wrap_u32]; done)), HS.out⟩

set_option maxHeartbeats 30000000 in
set_option maxRecDepth 100000 in
theorem pack_Fits.calls (a444 : Int) (a445 : Int) (r : Bool) (w : World)  (HGl0 : Aside0 (Gl 0 #[.int .i64 0, .int .i64 0, .int .i64 0, .int .i64 0, .int .i64 0] (fps []) w)) (HGl1 : Aside0 (Gl 1 #[.string (⟨#[102, 114, 101, 101]⟩), .string (⟨#[115, 109, 97, 108, 108]⟩), .string (⟨#[115, 112, 105, 110, 101]⟩), .string (⟨#[108, 101, 97, 102]⟩)] (fps []) w)) (HS : Aside0 (Sep (fps []) w [] w)) (H : Aside0 (pack_Fits.f a444 a445 = some r)) :
    Calls Tryd.prog 49 #[.int .u32 a444, .int .i64 a445] w fun e w' => e = .returned (.bool r) ∧ Sep (fps []) w [] w' := by
  unfold pack_Fits.f at H
  go_enter Tryd.func49, Tryd.ntmps49
  by_cases c446 : a445 ≥ 32
  · replace H := if_yes c446 H
    have c446b0 : decide (32 ≤ a445) = true := decide_eq_true c446
    clear c446
    go_wp2_with fail
    go_ret
    rw [← some_eq H]
    exact ⟨(by first | rfl | (simp [IntKind.wrap_u32]; done)), HS.out⟩
  · replace H := if_no c446 H
    have c446b0 : decide (32 ≤ a445) = false := decide_eq_false c446
    clear c446
    by_cases c447 : a445 < 0
    · replace H := if_yes c447 H
      have c447b0 : decide (a445 < 0) = true := decide_eq_true c447
      skip
      go_wp2_with fail
      clear c447
      go_ret
      rw [← some_eq H]
      exact ⟨(by first | rfl | (simp [IntKind.wrap_u32]; done)), HS.out⟩
    · replace H := if_no c447 H
      have c447b0 : decide (a445 < 0) = false := decide_eq_false c447
      by_cases c448 : 0 ≤ (IntKind.u64.wrap (a445))
      · replace H := if_yes c448 H
        have c448b0 : decide (0 ≤ (IntKind.u64.wrap (a445))) = true := decide_eq_true c448
        skip
        skip
        go_wp2_with fail
        clear c447 c448
        go_ret
        rw [← some_eq H]
        exact ⟨(by first | rfl | (simp [IntKind.wrap_u32]; done)), HS.out⟩
      · replace H := if_no c448 H
        have c448b0 : decide (0 ≤ (IntKind.u64.wrap (a445))) = false := decide_eq_false c448
        exact (none_no H).elim

set_option maxHeartbeats 30000000 in
set_option maxRecDepth 100000 in
theorem pack_mask.calls (a453 : Int) (a454 : Int) (r : Int) (w : World)  (HGl0 : Aside0 (Gl 0 #[.int .i64 0, .int .i64 0, .int .i64 0, .int .i64 0, .int .i64 0] (fps []) w)) (HGl1 : Aside0 (Gl 1 #[.string (⟨#[102, 114, 101, 101]⟩), .string (⟨#[115, 109, 97, 108, 108]⟩), .string (⟨#[115, 112, 105, 110, 101]⟩), .string (⟨#[108, 101, 97, 102]⟩)] (fps []) w)) (HS : Aside0 (Sep (fps []) w [] w)) (H : Aside0 (pack_mask.f a453 a454 = some r)) :
    Calls Tryd.prog 47 #[.int .i64 a453, .int .i64 a454] w fun e w' => e = .returned (.int .u32 r) ∧ Sep (fps []) w [] w' := by
  unfold pack_mask.f at H
  go_enter Tryd.func47, Tryd.ntmps47
  by_cases c455 : 0 ≤ (IntKind.u64.wrap (a454))
  · replace H := if_yes c455 H
    have c455b0 : decide (0 ≤ (IntKind.u64.wrap (a454))) = true := decide_eq_true c455
    by_cases c456 : 0 ≤ (IntKind.u64.wrap (a453))
    · replace H := if_yes c456 H
      have c456b0 : decide (0 ≤ (IntKind.u64.wrap (a453))) = true := decide_eq_true c456
      skip
      skip
      go_wp2_with fail
      clear c455 c456
      go_ret
      rw [← some_eq H]
      exact ⟨(by first | rfl | (simp [IntKind.wrap_u32]; done)), HS.out⟩
    · replace H := if_no c456 H
      have c456b0 : decide (0 ≤ (IntKind.u64.wrap (a453))) = false := decide_eq_false c456
      exact (none_no H).elim
  · replace H := if_no c455 H
    have c455b0 : decide (0 ≤ (IntKind.u64.wrap (a454))) = false := decide_eq_false c455
    exact (none_no H).elim

set_option maxHeartbeats 30000000 in
set_option maxRecDepth 100000 in
theorem pack_Put.calls (a431 : Int) (a432 : Int) (a433 : Int) (a434 : Int) (r : Int × Int) (w : World)  (HGl0 : Aside0 (Gl 0 #[.int .i64 0, .int .i64 0, .int .i64 0, .int .i64 0, .int .i64 0] (fps []) w)) (HGl1 : Aside0 (Gl 1 #[.string (⟨#[102, 114, 101, 101]⟩), .string (⟨#[115, 109, 97, 108, 108]⟩), .string (⟨#[115, 112, 105, 110, 101]⟩), .string (⟨#[108, 101, 97, 102]⟩)] (fps []) w)) (HS : Aside0 (Sep (fps []) w [] w)) (H : Aside0 (pack_Put.f a431 a432 a433 a434 = some r)) :
    Calls Tryd.prog 40 #[.int .u32 a431, .int .i64 a432, .int .i64 a433, .int .u32 a434] w fun e w' => e = .returned (.tuple #[.int .u32 r.1, .int .i64 r.2]) ∧ Sep (fps []) w [] w' := by
  unfold pack_Put.f at H
  go_enter Tryd.func40, Tryd.ntmps40
  go_wp2_with fail
  obtain ⟨t440, HA441, H⟩ := bind_some H
  refine (pack_isPiece.calls a432 a433 t440 _ ⟨HGl0.out.pass (l := []) HS.out⟩ ⟨HGl1.out.pass (l := []) HS.out⟩ ⟨Sep.start _⟩ HA441).mono ?_
  rintro e_ w442 ⟨rfl, hS⟩
  replace HS : Aside0 (Sep (fps []) w [] w442) := ⟨HS.out.call hS⟩
  clear hS
  by_cases c443 : t440 = true
  · replace H := if_yes c443 H
    have c443b0 : t440 = true := c443
    have c443b1 : (!t440) = false := by rw [c443b0]; rfl
    try rw [c443b1]
    clear c443
    go_wp2_with fail
    obtain ⟨t449, HA450, H⟩ := bind_some H
    refine (pack_Fits.calls a434 a433 t449 _ ⟨HGl0.out.pass (l := []) HS.out⟩ ⟨HGl1.out.pass (l := []) HS.out⟩ ⟨Sep.start _⟩ HA450).mono ?_
    rintro e_ w451 ⟨rfl, hS⟩
    replace HS : Aside0 (Sep (fps []) w [] w451) := ⟨HS.out.call hS⟩
    clear hS
    by_cases c452 : t449 = true
    · replace H := if_yes c452 H
      have c452b0 : t449 = true := c452
      have c452b1 : (!t449) = false := by rw [c452b0]; rfl
      try rw [c452b1]
      clear c452
      go_wp2_with fail
      obtain ⟨t457, HA458, H⟩ := bind_some H
      refine (pack_mask.calls a432 a433 t457 _ ⟨HGl0.out.pass (l := []) HS.out⟩ ⟨HGl1.out.pass (l := []) HS.out⟩ ⟨Sep.start _⟩ HA458).mono ?_
      rintro e_ w459 ⟨rfl, hS⟩
      replace HS : Aside0 (Sep (fps []) w [] w459) := ⟨HS.out.call hS⟩
      clear hS
      by_cases c460 : 0 ≤ (IntKind.u64.wrap (a432))
      · replace H := if_yes c460 H
        have c460b0 : decide (0 ≤ (IntKind.u64.wrap (a432))) = true := decide_eq_true c460
        skip
        go_wp2_with fail
        clear c460
        go_ret2
        rw [← some_eq H]
        exact ⟨(by first | rfl | (simp [IntKind.wrap_u32]; done)), HS.out⟩
      · replace H := if_no c460 H
        have c460b0 : decide (0 ≤ (IntKind.u64.wrap (a432))) = false := decide_eq_false c460
        exact (none_no H).elim
    · replace H := if_no c452 H
      have c452b0 : t449 = false := by simpa using c452
      have c452b1 : (!t449) = true := by rw [c452b0]; rfl
      try rw [c452b1]
      clear c452
      go_wp2_with fail
      go_ret2
      rw [← some_eq H]
      exact ⟨(by first | rfl | (simp [IntKind.wrap_u32]; done)), HS.out⟩
  · replace H := if_no c443 H
    have c443b0 : t440 = false := by simpa using c443
    have c443b1 : (!t440) = true := by rw [c443b0]; rfl
    try rw [c443b1]
    clear c443
    go_wp2_with fail
    go_ret2
    rw [← some_eq H]
    exact ⟨(by first | rfl | (simp [IntKind.wrap_u32]; done)), HS.out⟩

set_option maxHeartbeats 30000000 in
set_option maxRecDepth 100000 in
theorem pack_Join.calls (k : Nat) (l375 : List Int) (l379 : List Int) (A376 : Option Addr) (n377 : Nat) (A380 : Option Addr) (n381 : Nat) (r : Int × Int) (w : World) (HR378 : Aside0 (Rd (Kd.int .u32) (fps []) w A376 l375.length l375)) (HR382 : Aside0 (Rd (Kd.int .i64) (fps []) w A380 l379.length l379)) (HGl0 : Aside0 (Gl 0 #[.int .i64 0, .int .i64 0, .int .i64 0, .int .i64 0, .int .i64 0] (fps []) w)) (HGl1 : Aside0 (Gl 1 #[.string (⟨#[102, 114, 101, 101]⟩), .string (⟨#[115, 109, 97, 108, 108]⟩), .string (⟨#[115, 112, 105, 110, 101]⟩), .string (⟨#[108, 101, 97, 102]⟩)] (fps []) w)) (HS : Aside0 (Sep (fps []) w [] w)) (H : Aside0 (pack_Join.f k l375 l379 = some r)) :
    Calls Tryd.prog 24 #[.slice A376 l375.length n377, .slice A380 l379.length n381] w fun e w' => e = .returned (.tuple #[.int .u32 r.1, .int .i64 r.2]) ∧ Sep (fps []) w [] w' := by
  unfold pack_Join.f at H
  go_enter Tryd.func24, Tryd.ntmps24
  go_wp2_with fail
  obtain ⟨t412, HA413, H⟩ := bind_some H
  refine (pack_total.calls _ l379 A380 n381 t412 _ ⟨Rd.pass (l := []) (by decide) (fun _ _ _ _ h => h) HR382.out HS.out⟩ ⟨HGl0.out.pass (l := []) HS.out⟩ ⟨HGl1.out.pass (l := []) HS.out⟩ ⟨Sep.start _⟩ HA413).mono ?_
  rintro e_ w414 ⟨rfl, hS⟩
  replace HS : Aside0 (Sep (fps []) w [] w414) := ⟨HS.out.call hS⟩
  clear hS
  by_cases c415 : t412 < 0
  · replace H := if_yes c415 H
    have c415b0 : decide (t412 < 0) = true := decide_eq_true c415
    clear c415
    go_wp2_with fail
    go_ret2
    rw [← some_eq H]
    exact ⟨(by first | rfl | (simp [IntKind.wrap_u32]; done)), HS.out⟩
  · replace H := if_no c415 H
    have c415b0 : decide (t412 < 0) = false := decide_eq_false c415
    clear c415
    by_cases c416 : (l375.length : Int) = (l379.length : Int)
    · replace H := if_yes c416 H
      have c416b0 : ((l375.length : Int) == (l379.length : Int)) = true := beq_iff_eq.mpr c416
      have c416b1 : ((l375.length : Int) != (l379.length : Int)) = false := bne_eq_false_iff_eq.mpr c416
      clear c416
      go_wp2_with fail
      obtain ⟨o465, AL466, H⟩ := bind_some H
      go_loopg [6, 7, 24] k (fun kq v6 v7 v24 wc => ∃ (x469 : Int) (x470 : Int) (x471 : Int), v6 = .int .u32 x469 ∧ v7 = .int .i64 x470 ∧ v24 = .int .i64 x471 ∧ Aside0 (pack_Join.lo0 kq l375 l379 x469 x470 x471 = some o465) ∧ Aside0 (Sep (fps []) w [] wc))
      case atStart => exact ⟨(0), (0), (0), (by first | rfl | (simp [IntKind.wrap_u32]; done)), (by first | rfl | (simp [IntKind.wrap_u32]; done)), (by first | rfl | (simp [IntKind.wrap_u32]; done)), AL466, ⟨HS.out⟩⟩
      case round =>
        clear AL466 HS
        obtain ⟨x469, x470, x471, rfl, rfl, rfl, AL466, HS⟩ := hrel
        obtain ⟨w467, rfl⟩ : ∃ x : World, x = wr := ⟨_, rfl⟩
        cases gk with
        | zero => exact absurd AL466.out (by simp [pack_Join.lo0])
        | succ k468 =>
          have AL0 := AL466.out
          rw [pack_Join.lo0] at AL0
          clear AL466
          have AL466 := Aside0.mk AL0
          clear AL0
          by_cases c472 : x471 < (l379.length : Int)
          · replace AL466 := if_yes c472 AL466
            have c472b0 : decide (x471 < (l379.length : Int)) = true := decide_eq_true c472
            clear c472
            by_cases c473 : 0 ≤ x471
            · replace AL466 := if_yes c473 AL466
              have c473b0 : decide (0 ≤ x471) = true := decide_eq_true c473
              have c473p : (0 ≤ x471) = True := eq_true c473
              clear c473
              have ip474 : (x471 < (l379.length : Int)) = True := eq_true (of_decide_eq_true c472b0)
              by_cases c476 : x471 < (l375.length : Int)
              · replace AL466 := if_yes c476 AL466
                have c476b0 : decide (x471 < (l375.length : Int)) = true := decide_eq_true c476
                have c476p : (x471 < (l375.length : Int)) = True := eq_true c476
                clear c476
                obtain ⟨hx475a, hx475e, hx475⟩ := Kd.at_int (Rd.read (fun _ _ _ _ h => h) HR382.out HS.out.fr) x471 (of_decide_eq_true c473b0) (of_decide_eq_true c472b0); cases hx475e
                obtain ⟨hx477a, hx477e, hx477⟩ := Kd.at_int (Rd.read (fun _ _ _ _ h => h) HR378.out HS.out.fr) x471 (of_decide_eq_true c473b0) (of_decide_eq_true c476b0); cases hx477e
                go_wp2_with fail
                clear hx475 hx477
                obtain ⟨t461, HA478, AL466⟩ := bind_some AL466
                refine (pack_Put.calls x469 x470 (rd l379 x471) (rd l375 x471) t461 _ ⟨HGl0.out.pass (l := []) HS.out⟩ ⟨HGl1.out.pass (l := []) HS.out⟩ ⟨Sep.start _⟩ HA478).mono ?_
                rintro e_ w479 ⟨rfl, hS⟩
                replace HS : Aside0 (Sep (fps []) w [] w479) := ⟨HS.out.call hS⟩
                clear hS
                by_cases c480 : t461.2 = 0
                · replace AL466 := if_yes c480 AL466
                  have c480b0 : (t461.2 == 0) = true := beq_iff_eq.mpr c480
                  have c480b1 : (t461.2 != 0) = false := bne_eq_false_iff_eq.mpr c480
                  clear c480
                  go_wp2_with fail
                  go_roundg k468
                  case measure => exact Nat.lt_succ_self _
                  case rel => exact ⟨(t461.1), (wrap64 (x470 + (rd l379 x471))), (wrap64 (x471 + 1)), (by first | rfl | (simp [IntKind.wrap_u32]; done)), (by first | rfl | (simp [IntKind.wrap_u32]; done)), (by first | rfl | (simp [IntKind.wrap_u32]; done)), Aside0.mk AL466.out, ⟨HS.out⟩⟩
                · replace AL466 := if_no c480 AL466
                  have c480b0 : (t461.2 == 0) = false := beq_eq_false_iff_ne.mpr c480
                  have c480b1 : (t461.2 != 0) = true := bne_iff_ne.mpr c480
                  clear c480
                  go_wp2_with fail
                  have ho := some_eq AL466
                  subst ho
                  have H := lp_ret H
                  go_ret2
                  rw [← some_eq H]
                  exact ⟨(by first | rfl | (simp [IntKind.wrap_u32]; done)), HS.out⟩
              · replace AL466 := if_no c476 AL466
                have c476b0 : decide (x471 < (l375.length : Int)) = false := decide_eq_false c476
                clear c476
                exact (none_no AL466).elim
            · replace AL466 := if_no c473 AL466
              have c473b0 : decide (0 ≤ x471) = false := decide_eq_false c473
              clear c473
              exact (none_no AL466).elim
          · replace AL466 := if_no c472 AL466
            have c472b0 : decide (x471 < (l379.length : Int)) = false := decide_eq_false c472
            clear c472
            have ho := some_eq AL466
            subst ho
            clear AL466
            have H := lp_out H
            go_wp2_with fail
            go_ret2
            rw [← some_eq H]
            exact ⟨(by first | rfl | (simp [IntKind.wrap_u32]; done)), HS.out⟩
    · replace H := if_no c416 H
      have c416b0 : ((l375.length : Int) == (l379.length : Int)) = false := beq_eq_false_iff_ne.mpr c416
      have c416b1 : ((l375.length : Int) != (l379.length : Int)) = true := bne_iff_ne.mpr c416
      clear c416
      go_wp2_with fail
      go_ret2
      rw [← some_eq H]
      exact ⟨(by first | rfl | (simp [IntKind.wrap_u32]; done)), HS.out⟩

set_option maxHeartbeats 30000000 in
set_option maxRecDepth 100000 in
theorem tag_Pack.calls (k : Nat) (a168 : Int) (a169 : Int) (a170 : Int) (a171 : Int) (a172 : Int) (a173 : Int) (a174 : Int) (r : Int × Int) (w : World)  (HGl0 : Aside0 (Gl 0 #[.int .i64 0, .int .i64 0, .int .i64 0, .int .i64 0, .int .i64 0] (fps []) w)) (HGl1 : Aside0 (Gl 1 #[.string (⟨#[102, 114, 101, 101]⟩), .string (⟨#[115, 109, 97, 108, 108]⟩), .string (⟨#[115, 112, 105, 110, 101]⟩), .string (⟨#[108, 101, 97, 102]⟩)] (fps []) w)) (HS : Aside0 (Sep (fps []) w [] w)) (H : Aside0 (tag_Pack.f k a168 a169 a170 a171 a172 a173 a174 = some r)) :
    Calls Tryd.prog 8 #[.agg #[.int .i64 a168, .int .i64 a169, .int .i64 a170, .int .i64 a171, .int .i64 a172, .int .i64 a173, .int .i64 a174]] w fun e w' => e = .returned (.tuple #[.int .u32 r.1, .int .i64 r.2]) ∧ Sep (fps []) w [] w' := by
  unfold tag_Pack.f at H
  go_enter Tryd.func8, Tryd.ntmps8
  go_wp2_with (first | ((with_reducible refine gate_dst (N := 1) rfl ?_); refine box_on ?hg (N := 1) ?hd (cs := #[.int .i64 a168, .int .i64 a169, .int .i64 a170, .int .i64 a171, .int .i64 a172, .int .i64 a173, .int .i64 a174]) (t := 23) ?hr ?_; (case hd => rfl); (case hg => rfl); (case hr => first | (go_simp; done) | (go_simp; rfl)); intro g175 hg w176 hbox hb; replace HS : Aside0 (Sep (fps []) w [b1 g175 a168 a169 a170 a171 a172 a173 a174] w176) := ⟨HS.out.box hg hbox hb⟩; clear hg hbox hb; have hc178 : w176.cell? ⟨g175, 0, none⟩ = some (.int .i64 a168) := blk_cellv (HS.out.at0) 0 rfl; have hc179 : w176.cell? ⟨g175, 1, none⟩ = some (.int .i64 a169) := blk_cellv (HS.out.at0) 1 rfl; have hc180 : w176.cell? ⟨g175, 2, none⟩ = some (.int .i64 a170) := blk_cellv (HS.out.at0) 2 rfl; have hc181 : w176.cell? ⟨g175, 3, none⟩ = some (.int .i64 a171) := blk_cellv (HS.out.at0) 3 rfl; have hc182 : w176.cell? ⟨g175, 4, none⟩ = some (.int .i64 a172) := blk_cellv (HS.out.at0) 4 rfl; have hc183 : w176.cell? ⟨g175, 5, none⟩ = some (.int .i64 a173) := blk_cellv (HS.out.at0) 5 rfl; have hc184 : w176.cell? ⟨g175, 6, none⟩ = some (.int .i64 a174) := blk_cellv (HS.out.at0) 6 rfl))
  clear hc178 hc179 hc180 hc181 hc182 hc183 hc184
  obtain ⟨t317, HA318, H⟩ := bind_some H
  refine (tag_Right.calls _ a168 a169 a170 a171 a172 a173 a174 t317 _ ⟨HGl0.out.pass (l := []) HS.out⟩ ⟨HGl1.out.pass (l := []) HS.out⟩ ⟨Sep.start _⟩ HA318).mono ?_
  rintro e_ w319 ⟨rfl, hS⟩
  replace HS : Aside0 (Sep (fps []) w [b1 g175 a168 a169 a170 a171 a172 a173 a174] w319) := ⟨HS.out.call hS⟩
  clear hS
  by_cases c320 : t317 = true
  · replace H := if_yes c320 H
    have c320b0 : t317 = true := c320
    have c320b1 : (!t317) = false := by rw [c320b0]; rfl
    try rw [c320b1]
    clear c320
    have hc321 : w319.cell? ⟨g175, 0, none⟩ = some (.int .i64 a168) := blk_cellv (HS.out.at0) 0 rfl
    go_wp2_with (first | ((with_reducible refine gate_dst (N := 13) rfl ?_); refine slice_on (n := 1) ?hg (N := 13) ?hd (cs := #[.int .u32 ((a168) % 4294967296)]) (t := 24) ?hr ?_; (case hd => rfl); (case hg => rfl); (case hr => first | (go_simp; done) | (go_simp; rfl)); intro g322 hg w323 hbox hb; clear hc321; replace HS : Aside0 (Sep (fps []) w [b1 g175 a168 a169 a170 a171 a172 a173 a174, b3 g322 ((a168) % 4294967296)] w323) := ⟨HS.out.box hg hbox hb⟩; clear hg hbox hb; have hc325 : w323.cell? ⟨g175, 0, none⟩ = some (.int .i64 a168) := blk_cellv (HS.out.at0) 0 rfl; have hc326 : w323.cell? ⟨g175, 1, none⟩ = some (.int .i64 a169) := blk_cellv (HS.out.at0) 1 rfl; have hc327 : w323.cell? ⟨g175, 2, none⟩ = some (.int .i64 a170) := blk_cellv (HS.out.at0) 2 rfl; have hc328 : w323.cell? ⟨g175, 3, none⟩ = some (.int .i64 a171) := blk_cellv (HS.out.at0) 3 rfl; have hc329 : w323.cell? ⟨g175, 4, none⟩ = some (.int .i64 a172) := blk_cellv (HS.out.at0) 4 rfl; have hc330 : w323.cell? ⟨g175, 5, none⟩ = some (.int .i64 a173) := blk_cellv (HS.out.at0) 5 rfl; have hc331 : w323.cell? ⟨g175, 6, none⟩ = some (.int .i64 a174) := blk_cellv (HS.out.at0) 6 rfl))
    clear hc325 hc326 hc327 hc328 hc329 hc330 hc331
    obtain ⟨t332, HA333, H⟩ := bind_some H
    refine (tag_marks.calls a168 a169 a170 a171 a172 a173 a174 t332 _ ⟨HGl0.out.pass (l := []) HS.out⟩ ⟨HGl1.out.pass (l := []) HS.out⟩ ⟨Sep.start _⟩ HA333).mono ?_
    rintro e_ w334 ⟨rfl, hS⟩
    replace HS : Aside0 (Sep (fps []) w [b1 g175 a168 a169 a170 a171 a172 a173 a174, b3 g322 ((a168) % 4294967296)] w334) := ⟨HS.out.call hS⟩
    clear hS
    go_wp2_with fail
    replace HS : Aside0 (Sep (fps []) w [b1 g175 a168 a169 a170 a171 a172 a173 a174, r4 (some ⟨g322, 0, none⟩) 1 1 [(a168) % 4294967296]] w334) := ⟨Sep.litrow (l1 := [b1 g175 a168 a169 a170 a171 a172 a173 a174]) (l2 := []) (enc := Value.int .u32) (xs := [(a168) % 4294967296]) (n := 1) HS.out rfl (by decide)⟩
    obtain ⟨o336, AL337, H⟩ := bind_some H
    go_loopg [4, 16] k (fun kq v4 v16 wc => ∃ (x341 : Int) (x342 : List Int) (A343 : Option Addr) (m344 : Nat) (n345 : Nat), v4 = .slice A343 m344 n345 ∧ v16 = .int .i64 x341 ∧ Aside0 (tag_Pack.lo0 kq t332 x341 x342 = some o336) ∧ Aside0 (Sep (fps []) w [b1 g175 a168 a169 a170 a171 a172 a173 a174, r4 A343 m344 n345 x342] wc))
    case atStart => exact ⟨(0), ([(a168) % 4294967296]), ((some ⟨g322, 0, none⟩)), (1), (1), (by first | rfl | (simp [IntKind.wrap_u32]; done)), (by first | rfl | (simp [IntKind.wrap_u32]; done)), AL337, ⟨HS.out⟩⟩
    case round =>
      clear AL337 HS
      obtain ⟨x341, x342, A343, m344, n345, rfl, rfl, AL337, HS⟩ := hrel
      obtain ⟨w338, rfl⟩ : ∃ x : World, x = wr := ⟨_, rfl⟩
      obtain rfl := (row_len (HS.out.at1)).symm
      cases gk with
      | zero => exact absurd AL337.out (by simp [tag_Pack.lo0])
      | succ k339 =>
        have AL0 := AL337.out
        rw [tag_Pack.lo0] at AL0
        clear AL337
        have AL337 := Aside0.mk AL0
        clear AL0
        by_cases c347 : x341 < 5
        · replace AL337 := if_yes c347 AL337
          have c347b0 : decide (x341 < 5) = true := decide_eq_true c347
          clear c347
          by_cases c348 : 0 ≤ x341
          · replace AL337 := if_yes c348 AL337
            have c348b0 : decide (0 ≤ x341) = true := decide_eq_true c348
            have c348p : (0 ≤ x341) = True := eq_true c348
            clear c348
            have ip349 : (x341 < 5) = True := eq_true (of_decide_eq_true c347b0)
            have ix350 : ∀ w, (Instr.index 51 (.agg #[.int .i64 t332.1, .int .i64 t332.2.1, .int .i64 t332.2.2.1, .int .i64 t332.2.2.2.1, .int .i64 t332.2.2.2.2]) (.int .i64 x341)).run Tryd.prog w = .ok (.int .i64 (rd [t332.1, t332.2.1, t332.2.2.1, t332.2.2.2.1, t332.2.2.2.2] x341)) w := run_index_ints 51 3 5 .i64 .i64 [t332.1, t332.2.1, t332.2.2.1, t332.2.2.2.1, t332.2.2.2.2] x341 Tryd.underlying51 (fun _ => by kernel_rfl) (fun _ => by kernel_rfl) rfl (of_decide_eq_true c348b0) (of_decide_eq_true c347b0)
            by_cases c354 : x342.length < 35184372088832
            · replace AL337 := if_yes c354 AL337
              have c354b0 : decide (x342.length < 35184372088832) = true := decide_eq_true c354
              clear c354
              obtain ⟨y358, HA359, AL337⟩ := bind_some AL337
              go_wp2_with (first | ((with_reducible refine gate_dst (N := 22) rfl ?_); refine slice_on (n := 1) ?hg (N := 22) ?hd (cs := #[.int .u32 ((rd [t332.1, t332.2.1, t332.2.2.1, t332.2.2.2.1, t332.2.2.2.2] x341) % 4294967296)]) (t := 24) ?hr ?_; (case hd => rfl); (case hg => rfl); (case hr => first | (go_simp; done) | (go_simp; rfl)); intro g351 hg w352 hbox hb; replace HS : Aside0 (Sep (fps []) w [b1 g175 a168 a169 a170 a171 a172 a173 a174, r4 A343 x342.length n345 x342, b3 g351 ((rd [t332.1, t332.2.1, t332.2.2.1, t332.2.2.2.1, t332.2.2.2.2] x341) % 4294967296)] w352) := ⟨HS.out.box hg hbox hb⟩; clear hg hbox hb) | ((with_reducible refine gate_dst (N := 23) rfl ?_); refine append_event (l1 := [b1 g175 a168 a169 a170 a171 a172 a173 a174]) (l2 := [b3 g351 ((rd [t332.1, t332.2.1, t332.2.2.1, t332.2.2.2.1, t332.2.2.2.2] x341) % 4294967296)]) rfl (.tmp 19) (.tmp 22) 50 24 (.int .u32 0) 4 rfl Tryd.underlying50 (by kernel_rfl) rfl (by decide) (Value.int .u32) (fun _ => rfl) (.slice A343 x342.length n345) (x342 : List Int) [(rd [t332.1, t332.2.1, t332.2.2.1, t332.2.2.2.1, t332.2.2.2.2] x341) % 4294967296] ⟨g351, 0, none⟩ 1 rfl rfl (blk_news (xs := [(rd [t332.1, t332.2.1, t332.2.2.1, t332.2.2.2.1, t332.2.2.2.2] x341) % 4294967296]) (HS.out.at2)) HS.out (by have := of_decide_eq_true c354b0; simp only [List.length_cons, List.length_nil]; omega) HA359 ?_; intro A355 n356 w357 HS1; replace HS : Aside0 (Sep (fps []) w [b1 g175 a168 a169 a170 a171 a172 a173 a174, r4 A355 y358.length n356 y358, b3 g351 ((rd [t332.1, t332.2.1, t332.2.2.1, t332.2.2.2.1, t332.2.2.2.2] x341) % 4294967296)] w357) := ⟨HS1⟩; clear HS1; replace HS : Aside0 (Sep (fps []) w [b1 g175 a168 a169 a170 a171 a172 a173 a174, r4 A355 y358.length n356 y358] w357) := ⟨HS.out.sub (.cons_cons _ (.cons_cons _ (.cons _ .slnil)))⟩))
              go_roundg k339
              case measure => exact Nat.lt_succ_self _
              case rel => exact ⟨(wrap64 (x341 + 1)), (y358), (A355), (y358.length), (n356), (by first | rfl | (simp [IntKind.wrap_u32]; done)), (by first | rfl | (simp [IntKind.wrap_u32]; done)), Aside0.mk AL337.out, ⟨HS.out⟩⟩
            · replace AL337 := if_no c354 AL337
              have c354b0 : decide (x342.length < 35184372088832) = false := decide_eq_false c354
              clear c354
              exact (none_no AL337).elim
          · replace AL337 := if_no c348 AL337
            have c348b0 : decide (0 ≤ x341) = false := decide_eq_false c348
            clear c348
            exact (none_no AL337).elim
        · replace AL337 := if_no c347 AL337
          have c347b0 : decide (x341 < 5) = false := decide_eq_false c347
          clear c347
          have ho := some_eq AL337
          subst ho
          clear AL337
          by_cases c365 : x342.length < 35184372088831
          · replace H := if_yes c365 H
            have c365b0 : decide (x342.length < 35184372088831) = true := decide_eq_true c365
            clear c365
            obtain ⟨y369, HA370, H⟩ := bind_some H
            have hc361 : w338.cell? ⟨g175, 6, none⟩ = some (.int .i64 a174) := blk_cellv (HS.out.at0) 6 rfl
            go_wp2_with (first | ((with_reducible refine gate_dst (N := 29) rfl ?_); refine slice_on (n := 2) ?hg (N := 29) ?hd (cs := #[.int .u32 0, .int .u32 ((a174) % 4294967296)]) (t := 24) ?hr ?_; (case hd => rfl); (case hg => rfl); (case hr => first | (go_simp; done) | (go_simp; rfl)); intro g362 hg w363 hbox hb; clear hc361; replace HS : Aside0 (Sep (fps []) w [b1 g175 a168 a169 a170 a171 a172 a173 a174, r4 A343 x342.length n345 x342, b5 g362 0 ((a174) % 4294967296)] w363) := ⟨HS.out.box hg hbox hb⟩; clear hg hbox hb) | ((with_reducible refine gate_dst (N := 30) rfl ?_); refine append_event (l1 := [b1 g175 a168 a169 a170 a171 a172 a173 a174]) (l2 := [b5 g362 0 ((a174) % 4294967296)]) rfl (.tmp 25) (.tmp 29) 50 24 (.int .u32 0) 4 rfl Tryd.underlying50 (by kernel_rfl) rfl (by decide) (Value.int .u32) (fun _ => rfl) (.slice A343 x342.length n345) (x342 : List Int) [0, (a174) % 4294967296] ⟨g362, 0, none⟩ 2 rfl rfl (blk_news (xs := [0, (a174) % 4294967296]) (HS.out.at2)) HS.out (by have := of_decide_eq_true c365b0; simp only [List.length_cons, List.length_nil]; omega) HA370 ?_; intro A366 n367 w368 HS1; replace HS : Aside0 (Sep (fps []) w [b1 g175 a168 a169 a170 a171 a172 a173 a174, r4 A366 y369.length n367 y369, b5 g362 0 ((a174) % 4294967296)] w368) := ⟨HS1⟩; clear HS1) | ((with_reducible refine gate_dst (N := 31) rfl ?_); refine slice_on (n := 8) ?hg (N := 31) ?hd (cs := #[.int .i64 2, .int .i64 1, .int .i64 1, .int .i64 1, .int .i64 1, .int .i64 1, .int .i64 1, .int .i64 24]) (t := 3) ?hr ?_; (case hd => rfl); (case hg => rfl); (case hr => first | (go_simp; done) | (go_simp; rfl)); intro g372 hg w373 hbox hb; replace HS : Aside0 (Sep (fps []) w [b1 g175 a168 a169 a170 a171 a172 a173 a174, r4 A366 y369.length n367 y369, b5 g362 0 ((a174) % 4294967296), b6 g372 2 1 1 1 1 1 1 24] w373) := ⟨HS.out.box hg hbox hb⟩; clear hg hbox hb))
            obtain ⟨t482, HA483, H⟩ := bind_some H
            refine (pack_Join.calls _ y369 [2, 1, 1, 1, 1, 1, 1, 24] A366 n367 (some ⟨g372, 0, none⟩) 8 t482 _ ⟨Rd.ownI (l := []) HS.out 1 rfl⟩ ⟨Rd.lit (l := []) (xs := [2, 1, 1, 1, 1, 1, 1, 24]) HS.out 3 rfl (by simp)⟩ ⟨HGl0.out.pass (l := []) HS.out⟩ ⟨HGl1.out.pass (l := []) HS.out⟩ ⟨Sep.start _⟩ HA483).mono ?_
            rintro e_ w484 ⟨rfl, hS⟩
            replace HS : Aside0 (Sep (fps []) w [b1 g175 a168 a169 a170 a171 a172 a173 a174, r4 A366 y369.length n367 y369, b5 g362 0 ((a174) % 4294967296), b6 g372 2 1 1 1 1 1 1 24] w484) := ⟨HS.out.call hS⟩
            clear hS
            replace HS : Aside0 (Sep (fps []) w [] w484) := ⟨HS.out.sub (.cons _ (.cons _ (.cons _ (.cons _ .slnil))))⟩
            go_wp2_with fail
            go_ret2
            rw [← some_eq H]
            exact ⟨(by first | rfl | (simp [IntKind.wrap_u32]; done)), HS.out⟩
          · replace H := if_no c365 H
            have c365b0 : decide (x342.length < 35184372088831) = false := decide_eq_false c365
            clear c365
            exact (none_no H).elim
  · replace H := if_no c320 H
    have c320b0 : t317 = false := by simpa using c320
    have c320b1 : (!t317) = true := by rw [c320b0]; rfl
    try rw [c320b1]
    clear c320
    replace HS : Aside0 (Sep (fps []) w [] w319) := ⟨HS.out.sub (.cons _ .slnil)⟩
    go_wp2_with fail
    go_ret2
    rw [← some_eq H]
    exact ⟨(by first | rfl | (simp [IntKind.wrap_u32]; done)), HS.out⟩

set_option maxHeartbeats 30000000 in
set_option maxRecDepth 100000 in
theorem quitrentlaw06_begun.calls (k : Nat)  (r : Bool) (w : World)  (HGl0 : Aside0 (Gl 0 #[.int .i64 0, .int .i64 0, .int .i64 0, .int .i64 0, .int .i64 0] (fps []) w)) (HGl1 : Aside0 (Gl 1 #[.string (⟨#[102, 114, 101, 101]⟩), .string (⟨#[115, 109, 97, 108, 108]⟩), .string (⟨#[115, 112, 105, 110, 101]⟩), .string (⟨#[108, 101, 97, 102]⟩)] (fps []) w)) (HS : Aside0 (Sep (fps []) w [] w)) (H : Aside0 (quitrentlaw06_begun.f k = some r)) :
    Calls Tryd.prog 11 #[] w fun e w' => e = .returned (.bool r) ∧ Sep (fps []) w [] w' := by
  unfold quitrentlaw06_begun.f at H
  go_enter Tryd.func11, Tryd.ntmps11
  go_wp2_with fail
  obtain ⟨t504, HA505, H⟩ := bind_some H
  refine (tag_Pack.calls _ 3 0 0 0 0 0 3 t504 _ ⟨HGl0.out.pass (l := []) HS.out⟩ ⟨HGl1.out.pass (l := []) HS.out⟩ ⟨Sep.start _⟩ HA505).mono ?_
  rintro e_ w506 ⟨rfl, hS⟩
  replace HS : Aside0 (Sep (fps []) w [] w506) := ⟨HS.out.call hS⟩
  clear hS
  go_wp2_with fail
  obtain ⟨t507, HA508, H⟩ := bind_some H
  refine (tag_Pack.calls _ 2 1 0 0 0 1 0 t507 _ ⟨HGl0.out.pass (l := []) HS.out⟩ ⟨HGl1.out.pass (l := []) HS.out⟩ ⟨Sep.start _⟩ HA508).mono ?_
  rintro e_ w509 ⟨rfl, hS⟩
  replace HS : Aside0 (Sep (fps []) w [] w509) := ⟨HS.out.call hS⟩
  clear hS
  by_cases c510 : t504.1 = 771
  · replace H := if_yes c510 H
    have c510b0 : (t504.1 == 771) = true := beq_iff_eq.mpr c510
    have c510b1 : (t504.1 != 771) = false := bne_eq_false_iff_eq.mpr c510
    clear c510
    by_cases c511 : t504.2 = 0
    · replace H := if_yes c511 H
      have c511b0 : (t504.2 == 0) = true := beq_iff_eq.mpr c511
      have c511b1 : (t504.2 != 0) = false := bne_eq_false_iff_eq.mpr c511
      clear c511
      by_cases c512 : t507.1 = 70
      · replace H := if_yes c512 H
        have c512b0 : (t507.1 == 70) = true := beq_iff_eq.mpr c512
        have c512b1 : (t507.1 != 70) = false := bne_eq_false_iff_eq.mpr c512
        clear c512
        by_cases c513 : t507.2 = 0
        · replace H := if_yes c513 H
          have c513b0 : (t507.2 == 0) = true := beq_iff_eq.mpr c513
          have c513b1 : (t507.2 != 0) = false := bne_eq_false_iff_eq.mpr c513
          clear c513
          go_wp2_with fail
          obtain ⟨t514, HA515, H⟩ := bind_some H
          rcases t514 with t516 | (t517 | (t518 | (t519 | t520)))
          · have H := sum_l H
            refine (tag_Name.calls 3 (.inl t516) _ ⟨HGl0.out.pass (l := []) HS.out⟩ ⟨HGl1.out.pass (l := []) HS.out⟩ ⟨Sep.start _⟩ HA515).mono ?_
            rintro e_ w521 ⟨rfl, hS⟩
            replace HS : Aside0 (Sep (fps []) w [] w521) := ⟨HS.out.call hS⟩
            clear hS
            go_wp2_with fail
            go_ret
            rw [← some_eq H]
            exact ⟨(by first | rfl | (simp [IntKind.wrap_u32]; done)), HS.out⟩
          · have H := sum_r H
            have H := sum_l H
            refine (tag_Name.calls 3 (.inr (.inl t517)) _ ⟨HGl0.out.pass (l := []) HS.out⟩ ⟨HGl1.out.pass (l := []) HS.out⟩ ⟨Sep.start _⟩ HA515).mono ?_
            rintro e_ w522 ⟨rfl, hS⟩
            replace HS : Aside0 (Sep (fps []) w [] w522) := ⟨HS.out.call hS⟩
            clear hS
            go_wp2_with fail
            go_ret
            rw [← some_eq H]
            exact ⟨(by first | rfl | (simp [IntKind.wrap_u32]; done)), HS.out⟩
          · have H := sum_r H
            have H := sum_r H
            have H := sum_l H
            refine (tag_Name.calls 3 (.inr (.inr (.inl t518))) _ ⟨HGl0.out.pass (l := []) HS.out⟩ ⟨HGl1.out.pass (l := []) HS.out⟩ ⟨Sep.start _⟩ HA515).mono ?_
            rintro e_ w523 ⟨rfl, hS⟩
            replace HS : Aside0 (Sep (fps []) w [] w523) := ⟨HS.out.call hS⟩
            clear hS
            go_wp2_with fail
            go_ret
            rw [← some_eq H]
            exact ⟨(by first | rfl | (simp [IntKind.wrap_u32]; done)), HS.out⟩
          · have H := sum_r H
            have H := sum_r H
            have H := sum_r H
            have H := sum_l H
            refine (tag_Name.calls 3 (.inr (.inr (.inr (.inl t519)))) _ ⟨HGl0.out.pass (l := []) HS.out⟩ ⟨HGl1.out.pass (l := []) HS.out⟩ ⟨Sep.start _⟩ HA515).mono ?_
            rintro e_ w524 ⟨rfl, hS⟩
            replace HS : Aside0 (Sep (fps []) w [] w524) := ⟨HS.out.call hS⟩
            clear hS
            go_wp2_with fail
            go_ret
            rw [← some_eq H]
            exact ⟨(by first | rfl | (simp [IntKind.wrap_u32]; done)), HS.out⟩
          · have H := sum_r H
            have H := sum_r H
            have H := sum_r H
            have H := sum_r H
            refine (tag_Name.calls 3 (.inr (.inr (.inr (.inr t520)))) _ ⟨HGl0.out.pass (l := []) HS.out⟩ ⟨HGl1.out.pass (l := []) HS.out⟩ ⟨Sep.start _⟩ HA515).mono ?_
            rintro e_ w525 ⟨rfl, hS⟩
            replace HS : Aside0 (Sep (fps []) w [] w525) := ⟨HS.out.call hS⟩
            clear hS
            go_wp2_with fail
            go_ret
            rw [← some_eq H]
            exact ⟨(by first | rfl | (simp [IntKind.wrap_u32]; done)), HS.out⟩
        · replace H := if_no c513 H
          have c513b0 : (t507.2 == 0) = false := beq_eq_false_iff_ne.mpr c513
          have c513b1 : (t507.2 != 0) = true := bne_iff_ne.mpr c513
          clear c513
          go_wp2_with fail
          go_ret
          rw [← some_eq H]
          exact ⟨(by first | rfl | (simp [IntKind.wrap_u32]; done)), HS.out⟩
      · replace H := if_no c512 H
        have c512b0 : (t507.1 == 70) = false := beq_eq_false_iff_ne.mpr c512
        have c512b1 : (t507.1 != 70) = true := bne_iff_ne.mpr c512
        clear c512
        go_wp2_with fail
        go_ret
        rw [← some_eq H]
        exact ⟨(by first | rfl | (simp [IntKind.wrap_u32]; done)), HS.out⟩
    · replace H := if_no c511 H
      have c511b0 : (t504.2 == 0) = false := beq_eq_false_iff_ne.mpr c511
      have c511b1 : (t504.2 != 0) = true := bne_iff_ne.mpr c511
      clear c511
      go_wp2_with fail
      go_ret
      rw [← some_eq H]
      exact ⟨(by first | rfl | (simp [IntKind.wrap_u32]; done)), HS.out⟩
  · replace H := if_no c510 H
    have c510b0 : (t504.1 == 771) = false := beq_eq_false_iff_ne.mpr c510
    have c510b1 : (t504.1 != 771) = true := bne_iff_ne.mpr c510
    clear c510
    go_wp2_with fail
    go_ret
    rw [← some_eq H]
    exact ⟨(by first | rfl | (simp [IntKind.wrap_u32]; done)), HS.out⟩
end Go.Proofs.YtgkpcboaiaiahabDoor.C

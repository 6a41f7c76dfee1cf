/- Each function of the group Tn does what its plain function says, and changes nothing that was there; proved by walking its code. No condition. -/
import Derived.Test.YtgkpcboaiaiahabDoorQw
import Derived.Test.YtgkpcboaiaiahabDoorMTn
import Derived.Test.YtgkpcboaiaiahabDoorGTn0
namespace Go.Proofs.YtgkpcboaiaiahabDoor.C
open Go.RowKit Go.Proofs.YtgkpcboaiaiahabDoorW.PrintWords Go.Proofs.YtgkpcboaiaiahabDoorW.PrintLast Go.Proofs.YtgkpcboaiaiahabDoor.Q Go.Proofs.YtgkpcboaiaiahabDoor.M
set_option linter.unusedVariables false
set_option linter.unusedSimpArgs false
set_option maxHeartbeats 30000000 in
set_option maxRecDepth 100000 in
theorem quitrentlaw06_TagNames.calls (k : Nat) (a1 : Int) (a2 : ByteArray) (r : Bool) (w : World)  (HGl0 : Aside0 (Gl 0 #[.int .i64 0, .int .i64 0, .int .i64 0, .int .i64 0, .int .i64 0] (fps []) w)) (HGl1 : Aside0 (Gl 1 #[.string (⟨#[102, 114, 101, 101]⟩), .string (⟨#[115, 109, 97, 108, 108]⟩), .string (⟨#[115, 112, 105, 110, 101]⟩), .string (⟨#[108, 101, 97, 102]⟩)] (fps []) w)) (HS : Aside0 (Sep (fps []) w [] w)) (H : Aside0 (quitrentlaw06_TagNames.f k a1 a2 = some r)) :
    Calls Tryd.prog 4 #[.int .i64 a1, .string a2] w fun e w' => e = .returned (.bool r) ∧ Sep (fps []) w [] w' := by
  unfold quitrentlaw06_TagNames.f at H
  go_enter Tryd.func4, Tryd.ntmps4
  go_wp2_with fail
  obtain ⟨t64, HA65, H⟩ := bind_some H
  rcases t64 with t66 | (t67 | (t68 | (t69 | t70)))
  · have H := sum_l H
    refine (tag_Name.calls a1 (.inl t66) _ ⟨HGl0.out.pass (l := []) HS.out⟩ ⟨HGl1.out.pass (l := []) HS.out⟩ ⟨Sep.start _⟩ HA65).mono ?_
    rintro e_ w71 ⟨rfl, hS⟩
    replace HS : Aside0 (Sep (fps []) w [] w71) := ⟨HS.out.call hS⟩
    clear hS
    go_wp2_with fail
    obtain ⟨t90, HA91, H⟩ := bind_some H
    rcases t90 with t92 | (t93 | (t94 | (t95 | t96)))
    · have H := sum_l H
      refine (quitrentref06_Name.calls a1 (.inl t92) _ ⟨HGl0.out.pass (l := []) HS.out⟩ ⟨HGl1.out.pass (l := []) HS.out⟩ ⟨Sep.start _⟩ HA91).mono ?_
      rintro e_ w97 ⟨rfl, hS⟩
      replace HS : Aside0 (Sep (fps []) w [] w97) := ⟨HS.out.call hS⟩
      clear hS
      go_wp2_with fail
      go_ret
      rw [← some_eq H]
      exact ⟨(by first | rfl | (simp [IntKind.wrap_u32]; done)), HS.out⟩
    · have H := sum_r H
      have H := sum_l H
      refine (quitrentref06_Name.calls a1 (.inr (.inl t93)) _ ⟨HGl0.out.pass (l := []) HS.out⟩ ⟨HGl1.out.pass (l := []) HS.out⟩ ⟨Sep.start _⟩ HA91).mono ?_
      rintro e_ w98 ⟨rfl, hS⟩
      replace HS : Aside0 (Sep (fps []) w [] w98) := ⟨HS.out.call hS⟩
      clear hS
      go_wp2_with fail
      go_ret
      rw [← some_eq H]
      exact ⟨(by first | rfl | (simp [IntKind.wrap_u32]; done)), HS.out⟩
    · have H := sum_r H
      have H := sum_r H
      have H := sum_l H
      refine (quitrentref06_Name.calls a1 (.inr (.inr (.inl t94))) _ ⟨HGl0.out.pass (l := []) HS.out⟩ ⟨HGl1.out.pass (l := []) HS.out⟩ ⟨Sep.start _⟩ HA91).mono ?_
      rintro e_ w99 ⟨rfl, hS⟩
      replace HS : Aside0 (Sep (fps []) w [] w99) := ⟨HS.out.call hS⟩
      clear hS
      go_wp2_with fail
      go_ret
      rw [← some_eq H]
      exact ⟨(by first | rfl | (simp [IntKind.wrap_u32]; done)), HS.out⟩
    · have H := sum_r H
      have H := sum_r H
      have H := sum_r H
      have H := sum_l H
      refine (quitrentref06_Name.calls a1 (.inr (.inr (.inr (.inl t95)))) _ ⟨HGl0.out.pass (l := []) HS.out⟩ ⟨HGl1.out.pass (l := []) HS.out⟩ ⟨Sep.start _⟩ HA91).mono ?_
      rintro e_ w100 ⟨rfl, hS⟩
      replace HS : Aside0 (Sep (fps []) w [] w100) := ⟨HS.out.call hS⟩
      clear hS
      go_wp2_with fail
      go_ret
      rw [← some_eq H]
      exact ⟨(by first | rfl | (simp [IntKind.wrap_u32]; done)), HS.out⟩
    · have H := sum_r H
      have H := sum_r H
      have H := sum_r H
      have H := sum_r H
      refine (quitrentref06_Name.calls a1 (.inr (.inr (.inr (.inr t96)))) _ ⟨HGl0.out.pass (l := []) HS.out⟩ ⟨HGl1.out.pass (l := []) HS.out⟩ ⟨Sep.start _⟩ HA91).mono ?_
      rintro e_ w101 ⟨rfl, hS⟩
      replace HS : Aside0 (Sep (fps []) w [] w101) := ⟨HS.out.call hS⟩
      clear hS
      go_wp2_with fail
      obtain ⟨t139, HA140, H⟩ := bind_some H
      refine (tag_Kind.calls _ a2 t139 _ ⟨HGl0.out.pass (l := []) HS.out⟩ ⟨HGl1.out.pass (l := []) HS.out⟩ ⟨Sep.start _⟩ HA140).mono ?_
      rintro e_ w141 ⟨rfl, hS⟩
      replace HS : Aside0 (Sep (fps []) w [] w141) := ⟨HS.out.call hS⟩
      clear hS
      go_wp2_with fail
      obtain ⟨o143, AL144, H⟩ := bind_some H
      go_loopg [7, 8, 9] k (fun kq v7 v8 v9 wc => ∃ (x147 : Int) (x148 : Bool) (x149 : Int), v7 = .int .i64 x147 ∧ v8 = .bool x148 ∧ v9 = .int .i64 x149 ∧ Aside0 (quitrentlaw06_TagNames.lo0 kq a2 x147 x148 x149 = some o143) ∧ Aside0 (Sep (fps []) w [] wc))
      case atStart => exact ⟨(0), (false), (0), (by first | rfl | (simp [IntKind.wrap_u32]; done)), (by first | rfl | (simp [IntKind.wrap_u32]; done)), (by first | rfl | (simp [IntKind.wrap_u32]; done)), AL144, ⟨HS.out⟩⟩
      case round =>
        clear AL144 HS
        obtain ⟨x147, x148, x149, rfl, rfl, rfl, AL144, HS⟩ := hrel
        obtain ⟨w145, rfl⟩ : ∃ x : World, x = wr := ⟨_, rfl⟩
        cases gk with
        | zero => exact absurd AL144.out (by simp [quitrentlaw06_TagNames.lo0])
        | succ k146 =>
          have AL0 := AL144.out
          rw [quitrentlaw06_TagNames.lo0] at AL0
          clear AL144
          have AL144 := Aside0.mk AL0
          clear AL0
          by_cases c150 : x149 < 4
          · replace AL144 := if_yes c150 AL144
            have c150b0 : decide (x149 < 4) = true := decide_eq_true c150
            clear c150
            go_wp2_with fail
            obtain ⟨t151, HA152, AL144⟩ := bind_some AL144
            rcases t151 with t153 | (t154 | (t155 | (t156 | t157)))
            · have AL144 := sum_l AL144
              refine (quitrentref06_Name.calls x149 (.inl t153) _ ⟨HGl0.out.pass (l := []) HS.out⟩ ⟨HGl1.out.pass (l := []) HS.out⟩ ⟨Sep.start _⟩ HA152).mono ?_
              rintro e_ w158 ⟨rfl, hS⟩
              replace HS : Aside0 (Sep (fps []) w [] w158) := ⟨HS.out.call hS⟩
              clear hS
              by_cases c159 : (([102, 114, 101, 101] : List UInt8) == a2.toList) = true
              · replace AL144 := if_yes c159 AL144
                have c159b0 : (([102, 114, 101, 101] : List UInt8) == a2.toList) = true := c159
                have c159b1 : (!(([102, 114, 101, 101] : List UInt8) == a2.toList)) = false := by rw [c159b0]; rfl
                clear c159
                go_wp2_with fail
                go_roundg k146
                case measure => exact Nat.lt_succ_self _
                case rel => exact ⟨(x149), (true), (wrap64 (x149 + 1)), (by first | rfl | (simp [IntKind.wrap_u32]; done)), (by first | rfl | (simp [IntKind.wrap_u32]; done)), (by first | rfl | (simp [IntKind.wrap_u32]; done)), Aside0.mk AL144.out, ⟨HS.out⟩⟩
              · replace AL144 := if_no c159 AL144
                have c159b0 : (([102, 114, 101, 101] : List UInt8) == a2.toList) = false := by simpa using c159
                have c159b1 : (!(([102, 114, 101, 101] : List UInt8) == a2.toList)) = true := by rw [c159b0]; rfl
                clear c159
                go_wp2_with fail
                go_roundg k146
                case measure => exact Nat.lt_succ_self _
                case rel => exact ⟨(x147), (x148), (wrap64 (x149 + 1)), (by first | rfl | (simp [IntKind.wrap_u32]; done)), (by first | rfl | (simp [IntKind.wrap_u32]; done)), (by first | rfl | (simp [IntKind.wrap_u32]; done)), Aside0.mk AL144.out, ⟨HS.out⟩⟩
            · have AL144 := sum_r AL144
              have AL144 := sum_l AL144
              refine (quitrentref06_Name.calls x149 (.inr (.inl t154)) _ ⟨HGl0.out.pass (l := []) HS.out⟩ ⟨HGl1.out.pass (l := []) HS.out⟩ ⟨Sep.start _⟩ HA152).mono ?_
              rintro e_ w160 ⟨rfl, hS⟩
              replace HS : Aside0 (Sep (fps []) w [] w160) := ⟨HS.out.call hS⟩
              clear hS
              by_cases c161 : (([115, 109, 97, 108, 108] : List UInt8) == a2.toList) = true
              · replace AL144 := if_yes c161 AL144
                have c161b0 : (([115, 109, 97, 108, 108] : List UInt8) == a2.toList) = true := c161
                have c161b1 : (!(([115, 109, 97, 108, 108] : List UInt8) == a2.toList)) = false := by rw [c161b0]; rfl
                clear c161
                go_wp2_with fail
                go_roundg k146
                case measure => exact Nat.lt_succ_self _
                case rel => exact ⟨(x149), (true), (wrap64 (x149 + 1)), (by first | rfl | (simp [IntKind.wrap_u32]; done)), (by first | rfl | (simp [IntKind.wrap_u32]; done)), (by first | rfl | (simp [IntKind.wrap_u32]; done)), Aside0.mk AL144.out, ⟨HS.out⟩⟩
              · replace AL144 := if_no c161 AL144
                have c161b0 : (([115, 109, 97, 108, 108] : List UInt8) == a2.toList) = false := by simpa using c161
                have c161b1 : (!(([115, 109, 97, 108, 108] : List UInt8) == a2.toList)) = true := by rw [c161b0]; rfl
                clear c161
                go_wp2_with fail
                go_roundg k146
                case measure => exact Nat.lt_succ_self _
                case rel => exact ⟨(x147), (x148), (wrap64 (x149 + 1)), (by first | rfl | (simp [IntKind.wrap_u32]; done)), (by first | rfl | (simp [IntKind.wrap_u32]; done)), (by first | rfl | (simp [IntKind.wrap_u32]; done)), Aside0.mk AL144.out, ⟨HS.out⟩⟩
            · have AL144 := sum_r AL144
              have AL144 := sum_r AL144
              have AL144 := sum_l AL144
              refine (quitrentref06_Name.calls x149 (.inr (.inr (.inl t155))) _ ⟨HGl0.out.pass (l := []) HS.out⟩ ⟨HGl1.out.pass (l := []) HS.out⟩ ⟨Sep.start _⟩ HA152).mono ?_
              rintro e_ w162 ⟨rfl, hS⟩
              replace HS : Aside0 (Sep (fps []) w [] w162) := ⟨HS.out.call hS⟩
              clear hS
              by_cases c163 : (([115, 112, 105, 110, 101] : List UInt8) == a2.toList) = true
              · replace AL144 := if_yes c163 AL144
                have c163b0 : (([115, 112, 105, 110, 101] : List UInt8) == a2.toList) = true := c163
                have c163b1 : (!(([115, 112, 105, 110, 101] : List UInt8) == a2.toList)) = false := by rw [c163b0]; rfl
                clear c163
                go_wp2_with fail
                go_roundg k146
                case measure => exact Nat.lt_succ_self _
                case rel => exact ⟨(x149), (true), (wrap64 (x149 + 1)), (by first | rfl | (simp [IntKind.wrap_u32]; done)), (by first | rfl | (simp [IntKind.wrap_u32]; done)), (by first | rfl | (simp [IntKind.wrap_u32]; done)), Aside0.mk AL144.out, ⟨HS.out⟩⟩
              · replace AL144 := if_no c163 AL144
                have c163b0 : (([115, 112, 105, 110, 101] : List UInt8) == a2.toList) = false := by simpa using c163
                have c163b1 : (!(([115, 112, 105, 110, 101] : List UInt8) == a2.toList)) = true := by rw [c163b0]; rfl
                clear c163
                go_wp2_with fail
                go_roundg k146
                case measure => exact Nat.lt_succ_self _
                case rel => exact ⟨(x147), (x148), (wrap64 (x149 + 1)), (by first | rfl | (simp [IntKind.wrap_u32]; done)), (by first | rfl | (simp [IntKind.wrap_u32]; done)), (by first | rfl | (simp [IntKind.wrap_u32]; done)), Aside0.mk AL144.out, ⟨HS.out⟩⟩
            · have AL144 := sum_r AL144
              have AL144 := sum_r AL144
              have AL144 := sum_r AL144
              have AL144 := sum_l AL144
              refine (quitrentref06_Name.calls x149 (.inr (.inr (.inr (.inl t156)))) _ ⟨HGl0.out.pass (l := []) HS.out⟩ ⟨HGl1.out.pass (l := []) HS.out⟩ ⟨Sep.start _⟩ HA152).mono ?_
              rintro e_ w164 ⟨rfl, hS⟩
              replace HS : Aside0 (Sep (fps []) w [] w164) := ⟨HS.out.call hS⟩
              clear hS
              by_cases c165 : (([108, 101, 97, 102] : List UInt8) == a2.toList) = true
              · replace AL144 := if_yes c165 AL144
                have c165b0 : (([108, 101, 97, 102] : List UInt8) == a2.toList) = true := c165
                have c165b1 : (!(([108, 101, 97, 102] : List UInt8) == a2.toList)) = false := by rw [c165b0]; rfl
                clear c165
                go_wp2_with fail
                go_roundg k146
                case measure => exact Nat.lt_succ_self _
                case rel => exact ⟨(x149), (true), (wrap64 (x149 + 1)), (by first | rfl | (simp [IntKind.wrap_u32]; done)), (by first | rfl | (simp [IntKind.wrap_u32]; done)), (by first | rfl | (simp [IntKind.wrap_u32]; done)), Aside0.mk AL144.out, ⟨HS.out⟩⟩
              · replace AL144 := if_no c165 AL144
                have c165b0 : (([108, 101, 97, 102] : List UInt8) == a2.toList) = false := by simpa using c165
                have c165b1 : (!(([108, 101, 97, 102] : List UInt8) == a2.toList)) = true := by rw [c165b0]; rfl
                clear c165
                go_wp2_with fail
                go_roundg k146
                case measure => exact Nat.lt_succ_self _
                case rel => exact ⟨(x147), (x148), (wrap64 (x149 + 1)), (by first | rfl | (simp [IntKind.wrap_u32]; done)), (by first | rfl | (simp [IntKind.wrap_u32]; done)), (by first | rfl | (simp [IntKind.wrap_u32]; done)), Aside0.mk AL144.out, ⟨HS.out⟩⟩
            · have AL144 := sum_r AL144
              have AL144 := sum_r AL144
              have AL144 := sum_r AL144
              have AL144 := sum_r AL144
              refine (quitrentref06_Name.calls x149 (.inr (.inr (.inr (.inr t157)))) _ ⟨HGl0.out.pass (l := []) HS.out⟩ ⟨HGl1.out.pass (l := []) HS.out⟩ ⟨Sep.start _⟩ HA152).mono ?_
              rintro e_ w166 ⟨rfl, hS⟩
              replace HS : Aside0 (Sep (fps []) w [] w166) := ⟨HS.out.call hS⟩
              clear hS
              by_cases c167 : (([] : List UInt8) == a2.toList) = true
              · replace AL144 := if_yes c167 AL144
                have c167b0 : (([] : List UInt8) == a2.toList) = true := c167
                have c167b1 : (!(([] : List UInt8) == a2.toList)) = false := by rw [c167b0]; rfl
                clear c167
                go_wp2_with fail
                go_roundg k146
                case measure => exact Nat.lt_succ_self _
                case rel => exact ⟨(x149), (true), (wrap64 (x149 + 1)), (by first | rfl | (simp [IntKind.wrap_u32]; done)), (by first | rfl | (simp [IntKind.wrap_u32]; done)), (by first | rfl | (simp [IntKind.wrap_u32]; done)), Aside0.mk AL144.out, ⟨HS.out⟩⟩
              · replace AL144 := if_no c167 AL144
                have c167b0 : (([] : List UInt8) == a2.toList) = false := by simpa using c167
                have c167b1 : (!(([] : List UInt8) == a2.toList)) = true := by rw [c167b0]; rfl
                clear c167
                go_wp2_with fail
                go_roundg k146
                case measure => exact Nat.lt_succ_self _
                case rel => exact ⟨(x147), (x148), (wrap64 (x149 + 1)), (by first | rfl | (simp [IntKind.wrap_u32]; done)), (by first | rfl | (simp [IntKind.wrap_u32]; done)), (by first | rfl | (simp [IntKind.wrap_u32]; done)), Aside0.mk AL144.out, ⟨HS.out⟩⟩
          · replace AL144 := if_no c150 AL144
            have c150b0 : decide (x149 < 4) = false := decide_eq_false c150
            clear c150
            have ho := some_eq AL144
            subst ho
            clear AL144
            go_wp2_with fail
            obtain ⟨t526, HA527, H⟩ := bind_some H
            refine (quitrentlaw06_begun.calls _ t526 _ ⟨HGl0.out.pass (l := []) HS.out⟩ ⟨HGl1.out.pass (l := []) HS.out⟩ ⟨Sep.start _⟩ HA527).mono ?_
            rintro e_ w528 ⟨rfl, hS⟩
            replace HS : Aside0 (Sep (fps []) w [] w528) := ⟨HS.out.call hS⟩
            clear hS
            by_cases c529 : t526 = true
            · replace H := if_yes c529 H
              have c529b0 : t526 = true := c529
              have c529b1 : (!t526) = false := by rw [c529b0]; rfl
              clear c529
              by_cases c530 : t139.1 = x147
              · replace H := if_yes c530 H
                have c530b0 : (t139.1 == x147) = true := beq_iff_eq.mpr c530
                have c530b1 : (t139.1 != x147) = false := bne_eq_false_iff_eq.mpr c530
                clear c530
                by_cases c531 : t139.2 = true
                · replace H := if_yes c531 H
                  have c531b0 : t139.2 = true := c531
                  have c531b1 : (!t139.2) = false := by rw [c531b0]; rfl
                  clear c531
                  by_cases c532 : x148 = true
                  · replace H := if_yes c532 H
                    have c532b0 : x148 = true := c532
                    have c532b1 : (!x148) = false := by rw [c532b0]; rfl
                    clear c532
                    go_wp2_with fail
                    go_ret
                    rw [← some_eq H]
                    exact ⟨(by first | rfl | (simp [IntKind.wrap_u32]; done)), HS.out⟩
                  · replace H := if_no c532 H
                    have c532b0 : x148 = false := by simpa using c532
                    have c532b1 : (!x148) = true := by rw [c532b0]; rfl
                    clear c532
                    go_wp2_with fail
                    go_ret
                    rw [← some_eq H]
                    exact ⟨(by first | rfl | (simp [IntKind.wrap_u32]; done)), HS.out⟩
                · replace H := if_no c531 H
                  have c531b0 : t139.2 = false := by simpa using c531
                  have c531b1 : (!t139.2) = true := by rw [c531b0]; rfl
                  clear c531
                  by_cases c533 : x148 = true
                  · replace H := if_yes c533 H
                    have c533b0 : x148 = true := c533
                    have c533b1 : (!x148) = false := by rw [c533b0]; rfl
                    clear c533
                    go_wp2_with fail
                    go_ret
                    rw [← some_eq H]
                    exact ⟨(by first | rfl | (simp [IntKind.wrap_u32]; done)), HS.out⟩
                  · replace H := if_no c533 H
                    have c533b0 : x148 = false := by simpa using c533
                    have c533b1 : (!x148) = true := by rw [c533b0]; rfl
                    clear c533
                    go_wp2_with fail
                    go_ret
                    rw [← some_eq H]
                    exact ⟨(by first | rfl | (simp [IntKind.wrap_u32]; done)), HS.out⟩
              · replace H := if_no c530 H
                have c530b0 : (t139.1 == x147) = false := beq_eq_false_iff_ne.mpr c530
                have c530b1 : (t139.1 != x147) = true := bne_iff_ne.mpr c530
                clear c530
                go_wp2_with fail
                go_ret
                rw [← some_eq H]
                exact ⟨(by first | rfl | (simp [IntKind.wrap_u32]; done)), HS.out⟩
            · replace H := if_no c529 H
              have c529b0 : t526 = false := by simpa using c529
              have c529b1 : (!t526) = true := by rw [c529b0]; rfl
              clear c529
              go_wp2_with fail
              go_ret
              rw [← some_eq H]
              exact ⟨(by first | rfl | (simp [IntKind.wrap_u32]; done)), HS.out⟩
  · have H := sum_r H
    have H := sum_l H
    refine (tag_Name.calls a1 (.inr (.inl t67)) _ ⟨HGl0.out.pass (l := []) HS.out⟩ ⟨HGl1.out.pass (l := []) HS.out⟩ ⟨Sep.start _⟩ HA65).mono ?_
    rintro e_ w542 ⟨rfl, hS⟩
    replace HS : Aside0 (Sep (fps []) w [] w542) := ⟨HS.out.call hS⟩
    clear hS
    go_wp2_with fail
    obtain ⟨t90, HA543, H⟩ := bind_some H
    rcases t90 with t92 | (t93 | (t94 | (t95 | t96)))
    · have H := sum_l H
      refine (quitrentref06_Name.calls a1 (.inl t92) _ ⟨HGl0.out.pass (l := []) HS.out⟩ ⟨HGl1.out.pass (l := []) HS.out⟩ ⟨Sep.start _⟩ HA543).mono ?_
      rintro e_ w544 ⟨rfl, hS⟩
      replace HS : Aside0 (Sep (fps []) w [] w544) := ⟨HS.out.call hS⟩
      clear hS
      go_wp2_with fail
      obtain ⟨t139, HA545, H⟩ := bind_some H
      refine (tag_Kind.calls _ a2 t139 _ ⟨HGl0.out.pass (l := []) HS.out⟩ ⟨HGl1.out.pass (l := []) HS.out⟩ ⟨Sep.start _⟩ HA545).mono ?_
      rintro e_ w546 ⟨rfl, hS⟩
      replace HS : Aside0 (Sep (fps []) w [] w546) := ⟨HS.out.call hS⟩
      clear hS
      go_wp2_with fail
      obtain ⟨o548, AL549, H⟩ := bind_some H
      go_loopg [7, 8, 9] k (fun kq v7 v8 v9 wc => ∃ (x552 : Int) (x553 : Bool) (x554 : Int), v7 = .int .i64 x552 ∧ v8 = .bool x553 ∧ v9 = .int .i64 x554 ∧ Aside0 (quitrentlaw06_TagNames.lo1 kq a2 x552 x553 x554 = some o548) ∧ Aside0 (Sep (fps []) w [] wc))
      case atStart => exact ⟨(0), (false), (0), (by first | rfl | (simp [IntKind.wrap_u32]; done)), (by first | rfl | (simp [IntKind.wrap_u32]; done)), (by first | rfl | (simp [IntKind.wrap_u32]; done)), AL549, ⟨HS.out⟩⟩
      case round =>
        clear AL549 HS
        obtain ⟨x552, x553, x554, rfl, rfl, rfl, AL549, HS⟩ := hrel
        obtain ⟨w550, rfl⟩ : ∃ x : World, x = wr := ⟨_, rfl⟩
        cases gk with
        | zero => exact absurd AL549.out (by simp [quitrentlaw06_TagNames.lo1])
        | succ k551 =>
          have AL0 := AL549.out
          rw [quitrentlaw06_TagNames.lo1] at AL0
          clear AL549
          have AL549 := Aside0.mk AL0
          clear AL0
          by_cases c555 : x554 < 4
          · replace AL549 := if_yes c555 AL549
            have c555b0 : decide (x554 < 4) = true := decide_eq_true c555
            clear c555
            go_wp2_with fail
            obtain ⟨t151, HA556, AL549⟩ := bind_some AL549
            rcases t151 with t153 | (t154 | (t155 | (t156 | t157)))
            · have AL549 := sum_l AL549
              refine (quitrentref06_Name.calls x554 (.inl t153) _ ⟨HGl0.out.pass (l := []) HS.out⟩ ⟨HGl1.out.pass (l := []) HS.out⟩ ⟨Sep.start _⟩ HA556).mono ?_
              rintro e_ w557 ⟨rfl, hS⟩
              replace HS : Aside0 (Sep (fps []) w [] w557) := ⟨HS.out.call hS⟩
              clear hS
              by_cases c558 : (([102, 114, 101, 101] : List UInt8) == a2.toList) = true
              · replace AL549 := if_yes c558 AL549
                have c558b0 : (([102, 114, 101, 101] : List UInt8) == a2.toList) = true := c558
                have c558b1 : (!(([102, 114, 101, 101] : List UInt8) == a2.toList)) = false := by rw [c558b0]; rfl
                clear c558
                go_wp2_with fail
                go_roundg k551
                case measure => exact Nat.lt_succ_self _
                case rel => exact ⟨(x554), (true), (wrap64 (x554 + 1)), (by first | rfl | (simp [IntKind.wrap_u32]; done)), (by first | rfl | (simp [IntKind.wrap_u32]; done)), (by first | rfl | (simp [IntKind.wrap_u32]; done)), Aside0.mk AL549.out, ⟨HS.out⟩⟩
              · replace AL549 := if_no c558 AL549
                have c558b0 : (([102, 114, 101, 101] : List UInt8) == a2.toList) = false := by simpa using c558
                have c558b1 : (!(([102, 114, 101, 101] : List UInt8) == a2.toList)) = true := by rw [c558b0]; rfl
                clear c558
                go_wp2_with fail
                go_roundg k551
                case measure => exact Nat.lt_succ_self _
                case rel => exact ⟨(x552), (x553), (wrap64 (x554 + 1)), (by first | rfl | (simp [IntKind.wrap_u32]; done)), (by first | rfl | (simp [IntKind.wrap_u32]; done)), (by first | rfl | (simp [IntKind.wrap_u32]; done)), Aside0.mk AL549.out, ⟨HS.out⟩⟩
            · have AL549 := sum_r AL549
              have AL549 := sum_l AL549
              refine (quitrentref06_Name.calls x554 (.inr (.inl t154)) _ ⟨HGl0.out.pass (l := []) HS.out⟩ ⟨HGl1.out.pass (l := []) HS.out⟩ ⟨Sep.start _⟩ HA556).mono ?_
              rintro e_ w559 ⟨rfl, hS⟩
              replace HS : Aside0 (Sep (fps []) w [] w559) := ⟨HS.out.call hS⟩
              clear hS
              by_cases c560 : (([115, 109, 97, 108, 108] : List UInt8) == a2.toList) = true
              · replace AL549 := if_yes c560 AL549
                have c560b0 : (([115, 109, 97, 108, 108] : List UInt8) == a2.toList) = true := c560
                have c560b1 : (!(([115, 109, 97, 108, 108] : List UInt8) == a2.toList)) = false := by rw [c560b0]; rfl
                clear c560
                go_wp2_with fail
                go_roundg k551
                case measure => exact Nat.lt_succ_self _
                case rel => exact ⟨(x554), (true), (wrap64 (x554 + 1)), (by first | rfl | (simp [IntKind.wrap_u32]; done)), (by first | rfl | (simp [IntKind.wrap_u32]; done)), (by first | rfl | (simp [IntKind.wrap_u32]; done)), Aside0.mk AL549.out, ⟨HS.out⟩⟩
              · replace AL549 := if_no c560 AL549
                have c560b0 : (([115, 109, 97, 108, 108] : List UInt8) == a2.toList) = false := by simpa using c560
                have c560b1 : (!(([115, 109, 97, 108, 108] : List UInt8) == a2.toList)) = true := by rw [c560b0]; rfl
                clear c560
                go_wp2_with fail
                go_roundg k551
                case measure => exact Nat.lt_succ_self _
                case rel => exact ⟨(x552), (x553), (wrap64 (x554 + 1)), (by first | rfl | (simp [IntKind.wrap_u32]; done)), (by first | rfl | (simp [IntKind.wrap_u32]; done)), (by first | rfl | (simp [IntKind.wrap_u32]; done)), Aside0.mk AL549.out, ⟨HS.out⟩⟩
            · have AL549 := sum_r AL549
              have AL549 := sum_r AL549
              have AL549 := sum_l AL549
              refine (quitrentref06_Name.calls x554 (.inr (.inr (.inl t155))) _ ⟨HGl0.out.pass (l := []) HS.out⟩ ⟨HGl1.out.pass (l := []) HS.out⟩ ⟨Sep.start _⟩ HA556).mono ?_
              rintro e_ w561 ⟨rfl, hS⟩
              replace HS : Aside0 (Sep (fps []) w [] w561) := ⟨HS.out.call hS⟩
              clear hS
              by_cases c562 : (([115, 112, 105, 110, 101] : List UInt8) == a2.toList) = true
              · replace AL549 := if_yes c562 AL549
                have c562b0 : (([115, 112, 105, 110, 101] : List UInt8) == a2.toList) = true := c562
                have c562b1 : (!(([115, 112, 105, 110, 101] : List UInt8) == a2.toList)) = false := by rw [c562b0]; rfl
                clear c562
                go_wp2_with fail
                go_roundg k551
                case measure => exact Nat.lt_succ_self _
                case rel => exact ⟨(x554), (true), (wrap64 (x554 + 1)), (by first | rfl | (simp [IntKind.wrap_u32]; done)), (by first | rfl | (simp [IntKind.wrap_u32]; done)), (by first | rfl | (simp [IntKind.wrap_u32]; done)), Aside0.mk AL549.out, ⟨HS.out⟩⟩
              · replace AL549 := if_no c562 AL549
                have c562b0 : (([115, 112, 105, 110, 101] : List UInt8) == a2.toList) = false := by simpa using c562
                have c562b1 : (!(([115, 112, 105, 110, 101] : List UInt8) == a2.toList)) = true := by rw [c562b0]; rfl
                clear c562
                go_wp2_with fail
                go_roundg k551
                case measure => exact Nat.lt_succ_self _
                case rel => exact ⟨(x552), (x553), (wrap64 (x554 + 1)), (by first | rfl | (simp [IntKind.wrap_u32]; done)), (by first | rfl | (simp [IntKind.wrap_u32]; done)), (by first | rfl | (simp [IntKind.wrap_u32]; done)), Aside0.mk AL549.out, ⟨HS.out⟩⟩
            · have AL549 := sum_r AL549
              have AL549 := sum_r AL549
              have AL549 := sum_r AL549
              have AL549 := sum_l AL549
              refine (quitrentref06_Name.calls x554 (.inr (.inr (.inr (.inl t156)))) _ ⟨HGl0.out.pass (l := []) HS.out⟩ ⟨HGl1.out.pass (l := []) HS.out⟩ ⟨Sep.start _⟩ HA556).mono ?_
              rintro e_ w563 ⟨rfl, hS⟩
              replace HS : Aside0 (Sep (fps []) w [] w563) := ⟨HS.out.call hS⟩
              clear hS
              by_cases c564 : (([108, 101, 97, 102] : List UInt8) == a2.toList) = true
              · replace AL549 := if_yes c564 AL549
                have c564b0 : (([108, 101, 97, 102] : List UInt8) == a2.toList) = true := c564
                have c564b1 : (!(([108, 101, 97, 102] : List UInt8) == a2.toList)) = false := by rw [c564b0]; rfl
                clear c564
                go_wp2_with fail
                go_roundg k551
                case measure => exact Nat.lt_succ_self _
                case rel => exact ⟨(x554), (true), (wrap64 (x554 + 1)), (by first | rfl | (simp [IntKind.wrap_u32]; done)), (by first | rfl | (simp [IntKind.wrap_u32]; done)), (by first | rfl | (simp [IntKind.wrap_u32]; done)), Aside0.mk AL549.out, ⟨HS.out⟩⟩
              · replace AL549 := if_no c564 AL549
                have c564b0 : (([108, 101, 97, 102] : List UInt8) == a2.toList) = false := by simpa using c564
                have c564b1 : (!(([108, 101, 97, 102] : List UInt8) == a2.toList)) = true := by rw [c564b0]; rfl
                clear c564
                go_wp2_with fail
                go_roundg k551
                case measure => exact Nat.lt_succ_self _
                case rel => exact ⟨(x552), (x553), (wrap64 (x554 + 1)), (by first | rfl | (simp [IntKind.wrap_u32]; done)), (by first | rfl | (simp [IntKind.wrap_u32]; done)), (by first | rfl | (simp [IntKind.wrap_u32]; done)), Aside0.mk AL549.out, ⟨HS.out⟩⟩
            · have AL549 := sum_r AL549
              have AL549 := sum_r AL549
              have AL549 := sum_r AL549
              have AL549 := sum_r AL549
              refine (quitrentref06_Name.calls x554 (.inr (.inr (.inr (.inr t157)))) _ ⟨HGl0.out.pass (l := []) HS.out⟩ ⟨HGl1.out.pass (l := []) HS.out⟩ ⟨Sep.start _⟩ HA556).mono ?_
              rintro e_ w565 ⟨rfl, hS⟩
              replace HS : Aside0 (Sep (fps []) w [] w565) := ⟨HS.out.call hS⟩
              clear hS
              by_cases c566 : (([] : List UInt8) == a2.toList) = true
              · replace AL549 := if_yes c566 AL549
                have c566b0 : (([] : List UInt8) == a2.toList) = true := c566
                have c566b1 : (!(([] : List UInt8) == a2.toList)) = false := by rw [c566b0]; rfl
                clear c566
                go_wp2_with fail
                go_roundg k551
                case measure => exact Nat.lt_succ_self _
                case rel => exact ⟨(x554), (true), (wrap64 (x554 + 1)), (by first | rfl | (simp [IntKind.wrap_u32]; done)), (by first | rfl | (simp [IntKind.wrap_u32]; done)), (by first | rfl | (simp [IntKind.wrap_u32]; done)), Aside0.mk AL549.out, ⟨HS.out⟩⟩
              · replace AL549 := if_no c566 AL549
                have c566b0 : (([] : List UInt8) == a2.toList) = false := by simpa using c566
                have c566b1 : (!(([] : List UInt8) == a2.toList)) = true := by rw [c566b0]; rfl
                clear c566
                go_wp2_with fail
                go_roundg k551
                case measure => exact Nat.lt_succ_self _
                case rel => exact ⟨(x552), (x553), (wrap64 (x554 + 1)), (by first | rfl | (simp [IntKind.wrap_u32]; done)), (by first | rfl | (simp [IntKind.wrap_u32]; done)), (by first | rfl | (simp [IntKind.wrap_u32]; done)), Aside0.mk AL549.out, ⟨HS.out⟩⟩
          · replace AL549 := if_no c555 AL549
            have c555b0 : decide (x554 < 4) = false := decide_eq_false c555
            clear c555
            have ho := some_eq AL549
            subst ho
            clear AL549
            go_wp2_with fail
            obtain ⟨t526, HA567, H⟩ := bind_some H
            refine (quitrentlaw06_begun.calls _ t526 _ ⟨HGl0.out.pass (l := []) HS.out⟩ ⟨HGl1.out.pass (l := []) HS.out⟩ ⟨Sep.start _⟩ HA567).mono ?_
            rintro e_ w568 ⟨rfl, hS⟩
            replace HS : Aside0 (Sep (fps []) w [] w568) := ⟨HS.out.call hS⟩
            clear hS
            by_cases c569 : t526 = true
            · replace H := if_yes c569 H
              have c569b0 : t526 = true := c569
              have c569b1 : (!t526) = false := by rw [c569b0]; rfl
              clear c569
              by_cases c570 : t139.1 = x552
              · replace H := if_yes c570 H
                have c570b0 : (t139.1 == x552) = true := beq_iff_eq.mpr c570
                have c570b1 : (t139.1 != x552) = false := bne_eq_false_iff_eq.mpr c570
                clear c570
                by_cases c571 : t139.2 = true
                · replace H := if_yes c571 H
                  have c571b0 : t139.2 = true := c571
                  have c571b1 : (!t139.2) = false := by rw [c571b0]; rfl
                  clear c571
                  by_cases c572 : x553 = true
                  · replace H := if_yes c572 H
                    have c572b0 : x553 = true := c572
                    have c572b1 : (!x553) = false := by rw [c572b0]; rfl
                    clear c572
                    go_wp2_with fail
                    go_ret
                    rw [← some_eq H]
                    exact ⟨(by first | rfl | (simp [IntKind.wrap_u32]; done)), HS.out⟩
                  · replace H := if_no c572 H
                    have c572b0 : x553 = false := by simpa using c572
                    have c572b1 : (!x553) = true := by rw [c572b0]; rfl
                    clear c572
                    go_wp2_with fail
                    go_ret
                    rw [← some_eq H]
                    exact ⟨(by first | rfl | (simp [IntKind.wrap_u32]; done)), HS.out⟩
                · replace H := if_no c571 H
                  have c571b0 : t139.2 = false := by simpa using c571
                  have c571b1 : (!t139.2) = true := by rw [c571b0]; rfl
                  clear c571
                  by_cases c573 : x553 = true
                  · replace H := if_yes c573 H
                    have c573b0 : x553 = true := c573
                    have c573b1 : (!x553) = false := by rw [c573b0]; rfl
                    clear c573
                    go_wp2_with fail
                    go_ret
                    rw [← some_eq H]
                    exact ⟨(by first | rfl | (simp [IntKind.wrap_u32]; done)), HS.out⟩
                  · replace H := if_no c573 H
                    have c573b0 : x553 = false := by simpa using c573
                    have c573b1 : (!x553) = true := by rw [c573b0]; rfl
                    clear c573
                    go_wp2_with fail
                    go_ret
                    rw [← some_eq H]
                    exact ⟨(by first | rfl | (simp [IntKind.wrap_u32]; done)), HS.out⟩
              · replace H := if_no c570 H
                have c570b0 : (t139.1 == x552) = false := beq_eq_false_iff_ne.mpr c570
                have c570b1 : (t139.1 != x552) = true := bne_iff_ne.mpr c570
                clear c570
                go_wp2_with fail
                go_ret
                rw [← some_eq H]
                exact ⟨(by first | rfl | (simp [IntKind.wrap_u32]; done)), HS.out⟩
            · replace H := if_no c569 H
              have c569b0 : t526 = false := by simpa using c569
              have c569b1 : (!t526) = true := by rw [c569b0]; rfl
              clear c569
              go_wp2_with fail
              go_ret
              rw [← some_eq H]
              exact ⟨(by first | rfl | (simp [IntKind.wrap_u32]; done)), HS.out⟩
    · have H := sum_r H
      have H := sum_l H
      refine (quitrentref06_Name.calls a1 (.inr (.inl t93)) _ ⟨HGl0.out.pass (l := []) HS.out⟩ ⟨HGl1.out.pass (l := []) HS.out⟩ ⟨Sep.start _⟩ HA543).mono ?_
      rintro e_ w582 ⟨rfl, hS⟩
      replace HS : Aside0 (Sep (fps []) w [] w582) := ⟨HS.out.call hS⟩
      clear hS
      go_wp2_with fail
      go_ret
      rw [← some_eq H]
      exact ⟨(by first | rfl | (simp [IntKind.wrap_u32]; done)), HS.out⟩
    · have H := sum_r H
      have H := sum_r H
      have H := sum_l H
      refine (quitrentref06_Name.calls a1 (.inr (.inr (.inl t94))) _ ⟨HGl0.out.pass (l := []) HS.out⟩ ⟨HGl1.out.pass (l := []) HS.out⟩ ⟨Sep.start _⟩ HA543).mono ?_
      rintro e_ w583 ⟨rfl, hS⟩
      replace HS : Aside0 (Sep (fps []) w [] w583) := ⟨HS.out.call hS⟩
      clear hS
      go_wp2_with fail
      go_ret
      rw [← some_eq H]
      exact ⟨(by first | rfl | (simp [IntKind.wrap_u32]; done)), HS.out⟩
    · have H := sum_r H
      have H := sum_r H
      have H := sum_r H
      have H := sum_l H
      refine (quitrentref06_Name.calls a1 (.inr (.inr (.inr (.inl t95)))) _ ⟨HGl0.out.pass (l := []) HS.out⟩ ⟨HGl1.out.pass (l := []) HS.out⟩ ⟨Sep.start _⟩ HA543).mono ?_
      rintro e_ w584 ⟨rfl, hS⟩
      replace HS : Aside0 (Sep (fps []) w [] w584) := ⟨HS.out.call hS⟩
      clear hS
      go_wp2_with fail
      go_ret
      rw [← some_eq H]
      exact ⟨(by first | rfl | (simp [IntKind.wrap_u32]; done)), HS.out⟩
    · have H := sum_r H
      have H := sum_r H
      have H := sum_r H
      have H := sum_r H
      refine (quitrentref06_Name.calls a1 (.inr (.inr (.inr (.inr t96)))) _ ⟨HGl0.out.pass (l := []) HS.out⟩ ⟨HGl1.out.pass (l := []) HS.out⟩ ⟨Sep.start _⟩ HA543).mono ?_
      rintro e_ w585 ⟨rfl, hS⟩
      replace HS : Aside0 (Sep (fps []) w [] w585) := ⟨HS.out.call hS⟩
      clear hS
      go_wp2_with fail
      go_ret
      rw [← some_eq H]
      exact ⟨(by first | rfl | (simp [IntKind.wrap_u32]; done)), HS.out⟩
  · have H := sum_r H
    have H := sum_r H
    have H := sum_l H
    refine (tag_Name.calls a1 (.inr (.inr (.inl t68))) _ ⟨HGl0.out.pass (l := []) HS.out⟩ ⟨HGl1.out.pass (l := []) HS.out⟩ ⟨Sep.start _⟩ HA65).mono ?_
    rintro e_ w586 ⟨rfl, hS⟩
    replace HS : Aside0 (Sep (fps []) w [] w586) := ⟨HS.out.call hS⟩
    clear hS
    go_wp2_with fail
    obtain ⟨t90, HA587, H⟩ := bind_some H
    rcases t90 with t92 | (t93 | (t94 | (t95 | t96)))
    · have H := sum_l H
      refine (quitrentref06_Name.calls a1 (.inl t92) _ ⟨HGl0.out.pass (l := []) HS.out⟩ ⟨HGl1.out.pass (l := []) HS.out⟩ ⟨Sep.start _⟩ HA587).mono ?_
      rintro e_ w588 ⟨rfl, hS⟩
      replace HS : Aside0 (Sep (fps []) w [] w588) := ⟨HS.out.call hS⟩
      clear hS
      go_wp2_with fail
      go_ret
      rw [← some_eq H]
      exact ⟨(by first | rfl | (simp [IntKind.wrap_u32]; done)), HS.out⟩
    · have H := sum_r H
      have H := sum_l H
      refine (quitrentref06_Name.calls a1 (.inr (.inl t93)) _ ⟨HGl0.out.pass (l := []) HS.out⟩ ⟨HGl1.out.pass (l := []) HS.out⟩ ⟨Sep.start _⟩ HA587).mono ?_
      rintro e_ w589 ⟨rfl, hS⟩
      replace HS : Aside0 (Sep (fps []) w [] w589) := ⟨HS.out.call hS⟩
      clear hS
      go_wp2_with fail
      obtain ⟨t139, HA590, H⟩ := bind_some H
      refine (tag_Kind.calls _ a2 t139 _ ⟨HGl0.out.pass (l := []) HS.out⟩ ⟨HGl1.out.pass (l := []) HS.out⟩ ⟨Sep.start _⟩ HA590).mono ?_
      rintro e_ w591 ⟨rfl, hS⟩
      replace HS : Aside0 (Sep (fps []) w [] w591) := ⟨HS.out.call hS⟩
      clear hS
      go_wp2_with fail
      obtain ⟨o593, AL594, H⟩ := bind_some H
      go_loopg [7, 8, 9] k (fun kq v7 v8 v9 wc => ∃ (x597 : Int) (x598 : Bool) (x599 : Int), v7 = .int .i64 x597 ∧ v8 = .bool x598 ∧ v9 = .int .i64 x599 ∧ Aside0 (quitrentlaw06_TagNames.lo2 kq a2 x597 x598 x599 = some o593) ∧ Aside0 (Sep (fps []) w [] wc))
      case atStart => exact ⟨(0), (false), (0), (by first | rfl | (simp [IntKind.wrap_u32]; done)), (by first | rfl | (simp [IntKind.wrap_u32]; done)), (by first | rfl | (simp [IntKind.wrap_u32]; done)), AL594, ⟨HS.out⟩⟩
      case round =>
        clear AL594 HS
        obtain ⟨x597, x598, x599, rfl, rfl, rfl, AL594, HS⟩ := hrel
        obtain ⟨w595, rfl⟩ : ∃ x : World, x = wr := ⟨_, rfl⟩
        cases gk with
        | zero => exact absurd AL594.out (by simp [quitrentlaw06_TagNames.lo2])
        | succ k596 =>
          have AL0 := AL594.out
          rw [quitrentlaw06_TagNames.lo2] at AL0
          clear AL594
          have AL594 := Aside0.mk AL0
          clear AL0
          by_cases c600 : x599 < 4
          · replace AL594 := if_yes c600 AL594
            have c600b0 : decide (x599 < 4) = true := decide_eq_true c600
            clear c600
            go_wp2_with fail
            obtain ⟨t151, HA601, AL594⟩ := bind_some AL594
            rcases t151 with t153 | (t154 | (t155 | (t156 | t157)))
            · have AL594 := sum_l AL594
              refine (quitrentref06_Name.calls x599 (.inl t153) _ ⟨HGl0.out.pass (l := []) HS.out⟩ ⟨HGl1.out.pass (l := []) HS.out⟩ ⟨Sep.start _⟩ HA601).mono ?_
              rintro e_ w602 ⟨rfl, hS⟩
              replace HS : Aside0 (Sep (fps []) w [] w602) := ⟨HS.out.call hS⟩
              clear hS
              by_cases c603 : (([102, 114, 101, 101] : List UInt8) == a2.toList) = true
              · replace AL594 := if_yes c603 AL594
                have c603b0 : (([102, 114, 101, 101] : List UInt8) == a2.toList) = true := c603
                have c603b1 : (!(([102, 114, 101, 101] : List UInt8) == a2.toList)) = false := by rw [c603b0]; rfl
                clear c603
                go_wp2_with fail
                go_roundg k596
                case measure => exact Nat.lt_succ_self _
                case rel => exact ⟨(x599), (true), (wrap64 (x599 + 1)), (by first | rfl | (simp [IntKind.wrap_u32]; done)), (by first | rfl | (simp [IntKind.wrap_u32]; done)), (by first | rfl | (simp [IntKind.wrap_u32]; done)), Aside0.mk AL594.out, ⟨HS.out⟩⟩
              · replace AL594 := if_no c603 AL594
                have c603b0 : (([102, 114, 101, 101] : List UInt8) == a2.toList) = false := by simpa using c603
                have c603b1 : (!(([102, 114, 101, 101] : List UInt8) == a2.toList)) = true := by rw [c603b0]; rfl
                clear c603
                go_wp2_with fail
                go_roundg k596
                case measure => exact Nat.lt_succ_self _
                case rel => exact ⟨(x597), (x598), (wrap64 (x599 + 1)), (by first | rfl | (simp [IntKind.wrap_u32]; done)), (by first | rfl | (simp [IntKind.wrap_u32]; done)), (by first | rfl | (simp [IntKind.wrap_u32]; done)), Aside0.mk AL594.out, ⟨HS.out⟩⟩
            · have AL594 := sum_r AL594
              have AL594 := sum_l AL594
              refine (quitrentref06_Name.calls x599 (.inr (.inl t154)) _ ⟨HGl0.out.pass (l := []) HS.out⟩ ⟨HGl1.out.pass (l := []) HS.out⟩ ⟨Sep.start _⟩ HA601).mono ?_
              rintro e_ w604 ⟨rfl, hS⟩
              replace HS : Aside0 (Sep (fps []) w [] w604) := ⟨HS.out.call hS⟩
              clear hS
              by_cases c605 : (([115, 109, 97, 108, 108] : List UInt8) == a2.toList) = true
              · replace AL594 := if_yes c605 AL594
                have c605b0 : (([115, 109, 97, 108, 108] : List UInt8) == a2.toList) = true := c605
                have c605b1 : (!(([115, 109, 97, 108, 108] : List UInt8) == a2.toList)) = false := by rw [c605b0]; rfl
                clear c605
                go_wp2_with fail
                go_roundg k596
                case measure => exact Nat.lt_succ_self _
                case rel => exact ⟨(x599), (true), (wrap64 (x599 + 1)), (by first | rfl | (simp [IntKind.wrap_u32]; done)), (by first | rfl | (simp [IntKind.wrap_u32]; done)), (by first | rfl | (simp [IntKind.wrap_u32]; done)), Aside0.mk AL594.out, ⟨HS.out⟩⟩
              · replace AL594 := if_no c605 AL594
                have c605b0 : (([115, 109, 97, 108, 108] : List UInt8) == a2.toList) = false := by simpa using c605
                have c605b1 : (!(([115, 109, 97, 108, 108] : List UInt8) == a2.toList)) = true := by rw [c605b0]; rfl
                clear c605
                go_wp2_with fail
                go_roundg k596
                case measure => exact Nat.lt_succ_self _
                case rel => exact ⟨(x597), (x598), (wrap64 (x599 + 1)), (by first | rfl | (simp [IntKind.wrap_u32]; done)), (by first | rfl | (simp [IntKind.wrap_u32]; done)), (by first | rfl | (simp [IntKind.wrap_u32]; done)), Aside0.mk AL594.out, ⟨HS.out⟩⟩
            · have AL594 := sum_r AL594
              have AL594 := sum_r AL594
              have AL594 := sum_l AL594
              refine (quitrentref06_Name.calls x599 (.inr (.inr (.inl t155))) _ ⟨HGl0.out.pass (l := []) HS.out⟩ ⟨HGl1.out.pass (l := []) HS.out⟩ ⟨Sep.start _⟩ HA601).mono ?_
              rintro e_ w606 ⟨rfl, hS⟩
              replace HS : Aside0 (Sep (fps []) w [] w606) := ⟨HS.out.call hS⟩
              clear hS
              by_cases c607 : (([115, 112, 105, 110, 101] : List UInt8) == a2.toList) = true
              · replace AL594 := if_yes c607 AL594
                have c607b0 : (([115, 112, 105, 110, 101] : List UInt8) == a2.toList) = true := c607
                have c607b1 : (!(([115, 112, 105, 110, 101] : List UInt8) == a2.toList)) = false := by rw [c607b0]; rfl
                clear c607
                go_wp2_with fail
                go_roundg k596
                case measure => exact Nat.lt_succ_self _
                case rel => exact ⟨(x599), (true), (wrap64 (x599 + 1)), (by first | rfl | (simp [IntKind.wrap_u32]; done)), (by first | rfl | (simp [IntKind.wrap_u32]; done)), (by first | rfl | (simp [IntKind.wrap_u32]; done)), Aside0.mk AL594.out, ⟨HS.out⟩⟩
              · replace AL594 := if_no c607 AL594
                have c607b0 : (([115, 112, 105, 110, 101] : List UInt8) == a2.toList) = false := by simpa using c607
                have c607b1 : (!(([115, 112, 105, 110, 101] : List UInt8) == a2.toList)) = true := by rw [c607b0]; rfl
                clear c607
                go_wp2_with fail
                go_roundg k596
                case measure => exact Nat.lt_succ_self _
                case rel => exact ⟨(x597), (x598), (wrap64 (x599 + 1)), (by first | rfl | (simp [IntKind.wrap_u32]; done)), (by first | rfl | (simp [IntKind.wrap_u32]; done)), (by first | rfl | (simp [IntKind.wrap_u32]; done)), Aside0.mk AL594.out, ⟨HS.out⟩⟩
            · have AL594 := sum_r AL594
              have AL594 := sum_r AL594
              have AL594 := sum_r AL594
              have AL594 := sum_l AL594
              refine (quitrentref06_Name.calls x599 (.inr (.inr (.inr (.inl t156)))) _ ⟨HGl0.out.pass (l := []) HS.out⟩ ⟨HGl1.out.pass (l := []) HS.out⟩ ⟨Sep.start _⟩ HA601).mono ?_
              rintro e_ w608 ⟨rfl, hS⟩
              replace HS : Aside0 (Sep (fps []) w [] w608) := ⟨HS.out.call hS⟩
              clear hS
              by_cases c609 : (([108, 101, 97, 102] : List UInt8) == a2.toList) = true
              · replace AL594 := if_yes c609 AL594
                have c609b0 : (([108, 101, 97, 102] : List UInt8) == a2.toList) = true := c609
                have c609b1 : (!(([108, 101, 97, 102] : List UInt8) == a2.toList)) = false := by rw [c609b0]; rfl
                clear c609
                go_wp2_with fail
                go_roundg k596
                case measure => exact Nat.lt_succ_self _
                case rel => exact ⟨(x599), (true), (wrap64 (x599 + 1)), (by first | rfl | (simp [IntKind.wrap_u32]; done)), (by first | rfl | (simp [IntKind.wrap_u32]; done)), (by first | rfl | (simp [IntKind.wrap_u32]; done)), Aside0.mk AL594.out, ⟨HS.out⟩⟩
              · replace AL594 := if_no c609 AL594
                have c609b0 : (([108, 101, 97, 102] : List UInt8) == a2.toList) = false := by simpa using c609
                have c609b1 : (!(([108, 101, 97, 102] : List UInt8) == a2.toList)) = true := by rw [c609b0]; rfl
                clear c609
                go_wp2_with fail
                go_roundg k596
                case measure => exact Nat.lt_succ_self _
                case rel => exact ⟨(x597), (x598), (wrap64 (x599 + 1)), (by first | rfl | (simp [IntKind.wrap_u32]; done)), (by first | rfl | (simp [IntKind.wrap_u32]; done)), (by first | rfl | (simp [IntKind.wrap_u32]; done)), Aside0.mk AL594.out, ⟨HS.out⟩⟩
            · have AL594 := sum_r AL594
              have AL594 := sum_r AL594
              have AL594 := sum_r AL594
              have AL594 := sum_r AL594
              refine (quitrentref06_Name.calls x599 (.inr (.inr (.inr (.inr t157)))) _ ⟨HGl0.out.pass (l := []) HS.out⟩ ⟨HGl1.out.pass (l := []) HS.out⟩ ⟨Sep.start _⟩ HA601).mono ?_
              rintro e_ w610 ⟨rfl, hS⟩
              replace HS : Aside0 (Sep (fps []) w [] w610) := ⟨HS.out.call hS⟩
              clear hS
              by_cases c611 : (([] : List UInt8) == a2.toList) = true
              · replace AL594 := if_yes c611 AL594
                have c611b0 : (([] : List UInt8) == a2.toList) = true := c611
                have c611b1 : (!(([] : List UInt8) == a2.toList)) = false := by rw [c611b0]; rfl
                clear c611
                go_wp2_with fail
                go_roundg k596
                case measure => exact Nat.lt_succ_self _
                case rel => exact ⟨(x599), (true), (wrap64 (x599 + 1)), (by first | rfl | (simp [IntKind.wrap_u32]; done)), (by first | rfl | (simp [IntKind.wrap_u32]; done)), (by first | rfl | (simp [IntKind.wrap_u32]; done)), Aside0.mk AL594.out, ⟨HS.out⟩⟩
              · replace AL594 := if_no c611 AL594
                have c611b0 : (([] : List UInt8) == a2.toList) = false := by simpa using c611
                have c611b1 : (!(([] : List UInt8) == a2.toList)) = true := by rw [c611b0]; rfl
                clear c611
                go_wp2_with fail
                go_roundg k596
                case measure => exact Nat.lt_succ_self _
                case rel => exact ⟨(x597), (x598), (wrap64 (x599 + 1)), (by first | rfl | (simp [IntKind.wrap_u32]; done)), (by first | rfl | (simp [IntKind.wrap_u32]; done)), (by first | rfl | (simp [IntKind.wrap_u32]; done)), Aside0.mk AL594.out, ⟨HS.out⟩⟩
          · replace AL594 := if_no c600 AL594
            have c600b0 : decide (x599 < 4) = false := decide_eq_false c600
            clear c600
            have ho := some_eq AL594
            subst ho
            clear AL594
            go_wp2_with fail
            obtain ⟨t526, HA612, H⟩ := bind_some H
            refine (quitrentlaw06_begun.calls _ t526 _ ⟨HGl0.out.pass (l := []) HS.out⟩ ⟨HGl1.out.pass (l := []) HS.out⟩ ⟨Sep.start _⟩ HA612).mono ?_
            rintro e_ w613 ⟨rfl, hS⟩
            replace HS : Aside0 (Sep (fps []) w [] w613) := ⟨HS.out.call hS⟩
            clear hS
            by_cases c614 : t526 = true
            · replace H := if_yes c614 H
              have c614b0 : t526 = true := c614
              have c614b1 : (!t526) = false := by rw [c614b0]; rfl
              clear c614
              by_cases c615 : t139.1 = x597
              · replace H := if_yes c615 H
                have c615b0 : (t139.1 == x597) = true := beq_iff_eq.mpr c615
                have c615b1 : (t139.1 != x597) = false := bne_eq_false_iff_eq.mpr c615
                clear c615
                by_cases c616 : t139.2 = true
                · replace H := if_yes c616 H
                  have c616b0 : t139.2 = true := c616
                  have c616b1 : (!t139.2) = false := by rw [c616b0]; rfl
                  clear c616
                  by_cases c617 : x598 = true
                  · replace H := if_yes c617 H
                    have c617b0 : x598 = true := c617
                    have c617b1 : (!x598) = false := by rw [c617b0]; rfl
                    clear c617
                    go_wp2_with fail
                    go_ret
                    rw [← some_eq H]
                    exact ⟨(by first | rfl | (simp [IntKind.wrap_u32]; done)), HS.out⟩
                  · replace H := if_no c617 H
                    have c617b0 : x598 = false := by simpa using c617
                    have c617b1 : (!x598) = true := by rw [c617b0]; rfl
                    clear c617
                    go_wp2_with fail
                    go_ret
                    rw [← some_eq H]
                    exact ⟨(by first | rfl | (simp [IntKind.wrap_u32]; done)), HS.out⟩
                · replace H := if_no c616 H
                  have c616b0 : t139.2 = false := by simpa using c616
                  have c616b1 : (!t139.2) = true := by rw [c616b0]; rfl
                  clear c616
                  by_cases c618 : x598 = true
                  · replace H := if_yes c618 H
                    have c618b0 : x598 = true := c618
                    have c618b1 : (!x598) = false := by rw [c618b0]; rfl
                    clear c618
                    go_wp2_with fail
                    go_ret
                    rw [← some_eq H]
                    exact ⟨(by first | rfl | (simp [IntKind.wrap_u32]; done)), HS.out⟩
                  · replace H := if_no c618 H
                    have c618b0 : x598 = false := by simpa using c618
                    have c618b1 : (!x598) = true := by rw [c618b0]; rfl
                    clear c618
                    go_wp2_with fail
                    go_ret
                    rw [← some_eq H]
                    exact ⟨(by first | rfl | (simp [IntKind.wrap_u32]; done)), HS.out⟩
              · replace H := if_no c615 H
                have c615b0 : (t139.1 == x597) = false := beq_eq_false_iff_ne.mpr c615
                have c615b1 : (t139.1 != x597) = true := bne_iff_ne.mpr c615
                clear c615
                go_wp2_with fail
                go_ret
                rw [← some_eq H]
                exact ⟨(by first | rfl | (simp [IntKind.wrap_u32]; done)), HS.out⟩
            · replace H := if_no c614 H
              have c614b0 : t526 = false := by simpa using c614
              have c614b1 : (!t526) = true := by rw [c614b0]; rfl
              clear c614
              go_wp2_with fail
              go_ret
              rw [← some_eq H]
              exact ⟨(by first | rfl | (simp [IntKind.wrap_u32]; done)), HS.out⟩
    · have H := sum_r H
      have H := sum_r H
      have H := sum_l H
      refine (quitrentref06_Name.calls a1 (.inr (.inr (.inl t94))) _ ⟨HGl0.out.pass (l := []) HS.out⟩ ⟨HGl1.out.pass (l := []) HS.out⟩ ⟨Sep.start _⟩ HA587).mono ?_
      rintro e_ w627 ⟨rfl, hS⟩
      replace HS : Aside0 (Sep (fps []) w [] w627) := ⟨HS.out.call hS⟩
      clear hS
      go_wp2_with fail
      go_ret
      rw [← some_eq H]
      exact ⟨(by first | rfl | (simp [IntKind.wrap_u32]; done)), HS.out⟩
    · have H := sum_r H
      have H := sum_r H
      have H := sum_r H
      have H := sum_l H
      refine (quitrentref06_Name.calls a1 (.inr (.inr (.inr (.inl t95)))) _ ⟨HGl0.out.pass (l := []) HS.out⟩ ⟨HGl1.out.pass (l := []) HS.out⟩ ⟨Sep.start _⟩ HA587).mono ?_
      rintro e_ w628 ⟨rfl, hS⟩
      replace HS : Aside0 (Sep (fps []) w [] w628) := ⟨HS.out.call hS⟩
      clear hS
      go_wp2_with fail
      go_ret
      rw [← some_eq H]
      exact ⟨(by first | rfl | (simp [IntKind.wrap_u32]; done)), HS.out⟩
    · have H := sum_r H
      have H := sum_r H
      have H := sum_r H
      have H := sum_r H
      refine (quitrentref06_Name.calls a1 (.inr (.inr (.inr (.inr t96)))) _ ⟨HGl0.out.pass (l := []) HS.out⟩ ⟨HGl1.out.pass (l := []) HS.out⟩ ⟨Sep.start _⟩ HA587).mono ?_
      rintro e_ w629 ⟨rfl, hS⟩
      replace HS : Aside0 (Sep (fps []) w [] w629) := ⟨HS.out.call hS⟩
      clear hS
      go_wp2_with fail
      go_ret
      rw [← some_eq H]
      exact ⟨(by first | rfl | (simp [IntKind.wrap_u32]; done)), HS.out⟩
  · have H := sum_r H
    have H := sum_r H
    have H := sum_r H
    have H := sum_l H
    refine (tag_Name.calls a1 (.inr (.inr (.inr (.inl t69)))) _ ⟨HGl0.out.pass (l := []) HS.out⟩ ⟨HGl1.out.pass (l := []) HS.out⟩ ⟨Sep.start _⟩ HA65).mono ?_
    rintro e_ w630 ⟨rfl, hS⟩
    replace HS : Aside0 (Sep (fps []) w [] w630) := ⟨HS.out.call hS⟩
    clear hS
    go_wp2_with fail
    obtain ⟨t90, HA631, H⟩ := bind_some H
    rcases t90 with t92 | (t93 | (t94 | (t95 | t96)))
    · have H := sum_l H
      refine (quitrentref06_Name.calls a1 (.inl t92) _ ⟨HGl0.out.pass (l := []) HS.out⟩ ⟨HGl1.out.pass (l := []) HS.out⟩ ⟨Sep.start _⟩ HA631).mono ?_
      rintro e_ w632 ⟨rfl, hS⟩
      replace HS : Aside0 (Sep (fps []) w [] w632) := ⟨HS.out.call hS⟩
      clear hS
      go_wp2_with fail
      go_ret
      rw [← some_eq H]
      exact ⟨(by first | rfl | (simp [IntKind.wrap_u32]; done)), HS.out⟩
    · have H := sum_r H
      have H := sum_l H
      refine (quitrentref06_Name.calls a1 (.inr (.inl t93)) _ ⟨HGl0.out.pass (l := []) HS.out⟩ ⟨HGl1.out.pass (l := []) HS.out⟩ ⟨Sep.start _⟩ HA631).mono ?_
      rintro e_ w633 ⟨rfl, hS⟩
      replace HS : Aside0 (Sep (fps []) w [] w633) := ⟨HS.out.call hS⟩
      clear hS
      go_wp2_with fail
      go_ret
      rw [← some_eq H]
      exact ⟨(by first | rfl | (simp [IntKind.wrap_u32]; done)), HS.out⟩
    · have H := sum_r H
      have H := sum_r H
      have H := sum_l H
      refine (quitrentref06_Name.calls a1 (.inr (.inr (.inl t94))) _ ⟨HGl0.out.pass (l := []) HS.out⟩ ⟨HGl1.out.pass (l := []) HS.out⟩ ⟨Sep.start _⟩ HA631).mono ?_
      rintro e_ w634 ⟨rfl, hS⟩
      replace HS : Aside0 (Sep (fps []) w [] w634) := ⟨HS.out.call hS⟩
      clear hS
      go_wp2_with fail
      obtain ⟨t139, HA635, H⟩ := bind_some H
      refine (tag_Kind.calls _ a2 t139 _ ⟨HGl0.out.pass (l := []) HS.out⟩ ⟨HGl1.out.pass (l := []) HS.out⟩ ⟨Sep.start _⟩ HA635).mono ?_
      rintro e_ w636 ⟨rfl, hS⟩
      replace HS : Aside0 (Sep (fps []) w [] w636) := ⟨HS.out.call hS⟩
      clear hS
      go_wp2_with fail
      obtain ⟨o638, AL639, H⟩ := bind_some H
      go_loopg [7, 8, 9] k (fun kq v7 v8 v9 wc => ∃ (x642 : Int) (x643 : Bool) (x644 : Int), v7 = .int .i64 x642 ∧ v8 = .bool x643 ∧ v9 = .int .i64 x644 ∧ Aside0 (quitrentlaw06_TagNames.lo3 kq a2 x642 x643 x644 = some o638) ∧ Aside0 (Sep (fps []) w [] wc))
      case atStart => exact ⟨(0), (false), (0), (by first | rfl | (simp [IntKind.wrap_u32]; done)), (by first | rfl | (simp [IntKind.wrap_u32]; done)), (by first | rfl | (simp [IntKind.wrap_u32]; done)), AL639, ⟨HS.out⟩⟩
      case round =>
        clear AL639 HS
        obtain ⟨x642, x643, x644, rfl, rfl, rfl, AL639, HS⟩ := hrel
        obtain ⟨w640, rfl⟩ : ∃ x : World, x = wr := ⟨_, rfl⟩
        cases gk with
        | zero => exact absurd AL639.out (by simp [quitrentlaw06_TagNames.lo3])
        | succ k641 =>
          have AL0 := AL639.out
          rw [quitrentlaw06_TagNames.lo3] at AL0
          clear AL639
          have AL639 := Aside0.mk AL0
          clear AL0
          by_cases c645 : x644 < 4
          · replace AL639 := if_yes c645 AL639
            have c645b0 : decide (x644 < 4) = true := decide_eq_true c645
            clear c645
            go_wp2_with fail
            obtain ⟨t151, HA646, AL639⟩ := bind_some AL639
            rcases t151 with t153 | (t154 | (t155 | (t156 | t157)))
            · have AL639 := sum_l AL639
              refine (quitrentref06_Name.calls x644 (.inl t153) _ ⟨HGl0.out.pass (l := []) HS.out⟩ ⟨HGl1.out.pass (l := []) HS.out⟩ ⟨Sep.start _⟩ HA646).mono ?_
              rintro e_ w647 ⟨rfl, hS⟩
              replace HS : Aside0 (Sep (fps []) w [] w647) := ⟨HS.out.call hS⟩
              clear hS
              by_cases c648 : (([102, 114, 101, 101] : List UInt8) == a2.toList) = true
              · replace AL639 := if_yes c648 AL639
                have c648b0 : (([102, 114, 101, 101] : List UInt8) == a2.toList) = true := c648
                have c648b1 : (!(([102, 114, 101, 101] : List UInt8) == a2.toList)) = false := by rw [c648b0]; rfl
                clear c648
                go_wp2_with fail
                go_roundg k641
                case measure => exact Nat.lt_succ_self _
                case rel => exact ⟨(x644), (true), (wrap64 (x644 + 1)), (by first | rfl | (simp [IntKind.wrap_u32]; done)), (by first | rfl | (simp [IntKind.wrap_u32]; done)), (by first | rfl | (simp [IntKind.wrap_u32]; done)), Aside0.mk AL639.out, ⟨HS.out⟩⟩
              · replace AL639 := if_no c648 AL639
                have c648b0 : (([102, 114, 101, 101] : List UInt8) == a2.toList) = false := by simpa using c648
                have c648b1 : (!(([102, 114, 101, 101] : List UInt8) == a2.toList)) = true := by rw [c648b0]; rfl
                clear c648
                go_wp2_with fail
                go_roundg k641
                case measure => exact Nat.lt_succ_self _
                case rel => exact ⟨(x642), (x643), (wrap64 (x644 + 1)), (by first | rfl | (simp [IntKind.wrap_u32]; done)), (by first | rfl | (simp [IntKind.wrap_u32]; done)), (by first | rfl | (simp [IntKind.wrap_u32]; done)), Aside0.mk AL639.out, ⟨HS.out⟩⟩
            · have AL639 := sum_r AL639
              have AL639 := sum_l AL639
              refine (quitrentref06_Name.calls x644 (.inr (.inl t154)) _ ⟨HGl0.out.pass (l := []) HS.out⟩ ⟨HGl1.out.pass (l := []) HS.out⟩ ⟨Sep.start _⟩ HA646).mono ?_
              rintro e_ w649 ⟨rfl, hS⟩
              replace HS : Aside0 (Sep (fps []) w [] w649) := ⟨HS.out.call hS⟩
              clear hS
              by_cases c650 : (([115, 109, 97, 108, 108] : List UInt8) == a2.toList) = true
              · replace AL639 := if_yes c650 AL639
                have c650b0 : (([115, 109, 97, 108, 108] : List UInt8) == a2.toList) = true := c650
                have c650b1 : (!(([115, 109, 97, 108, 108] : List UInt8) == a2.toList)) = false := by rw [c650b0]; rfl
                clear c650
                go_wp2_with fail
                go_roundg k641
                case measure => exact Nat.lt_succ_self _
                case rel => exact ⟨(x644), (true), (wrap64 (x644 + 1)), (by first | rfl | (simp [IntKind.wrap_u32]; done)), (by first | rfl | (simp [IntKind.wrap_u32]; done)), (by first | rfl | (simp [IntKind.wrap_u32]; done)), Aside0.mk AL639.out, ⟨HS.out⟩⟩
              · replace AL639 := if_no c650 AL639
                have c650b0 : (([115, 109, 97, 108, 108] : List UInt8) == a2.toList) = false := by simpa using c650
                have c650b1 : (!(([115, 109, 97, 108, 108] : List UInt8) == a2.toList)) = true := by rw [c650b0]; rfl
                clear c650
                go_wp2_with fail
                go_roundg k641
                case measure => exact Nat.lt_succ_self _
                case rel => exact ⟨(x642), (x643), (wrap64 (x644 + 1)), (by first | rfl | (simp [IntKind.wrap_u32]; done)), (by first | rfl | (simp [IntKind.wrap_u32]; done)), (by first | rfl | (simp [IntKind.wrap_u32]; done)), Aside0.mk AL639.out, ⟨HS.out⟩⟩
            · have AL639 := sum_r AL639
              have AL639 := sum_r AL639
              have AL639 := sum_l AL639
              refine (quitrentref06_Name.calls x644 (.inr (.inr (.inl t155))) _ ⟨HGl0.out.pass (l := []) HS.out⟩ ⟨HGl1.out.pass (l := []) HS.out⟩ ⟨Sep.start _⟩ HA646).mono ?_
              rintro e_ w651 ⟨rfl, hS⟩
              replace HS : Aside0 (Sep (fps []) w [] w651) := ⟨HS.out.call hS⟩
              clear hS
              by_cases c652 : (([115, 112, 105, 110, 101] : List UInt8) == a2.toList) = true
              · replace AL639 := if_yes c652 AL639
                have c652b0 : (([115, 112, 105, 110, 101] : List UInt8) == a2.toList) = true := c652
                have c652b1 : (!(([115, 112, 105, 110, 101] : List UInt8) == a2.toList)) = false := by rw [c652b0]; rfl
                clear c652
                go_wp2_with fail
                go_roundg k641
                case measure => exact Nat.lt_succ_self _
                case rel => exact ⟨(x644), (true), (wrap64 (x644 + 1)), (by first | rfl | (simp [IntKind.wrap_u32]; done)), (by first | rfl | (simp [IntKind.wrap_u32]; done)), (by first | rfl | (simp [IntKind.wrap_u32]; done)), Aside0.mk AL639.out, ⟨HS.out⟩⟩
              · replace AL639 := if_no c652 AL639
                have c652b0 : (([115, 112, 105, 110, 101] : List UInt8) == a2.toList) = false := by simpa using c652
                have c652b1 : (!(([115, 112, 105, 110, 101] : List UInt8) == a2.toList)) = true := by rw [c652b0]; rfl
                clear c652
                go_wp2_with fail
                go_roundg k641
                case measure => exact Nat.lt_succ_self _
                case rel => exact ⟨(x642), (x643), (wrap64 (x644 + 1)), (by first | rfl | (simp [IntKind.wrap_u32]; done)), (by first | rfl | (simp [IntKind.wrap_u32]; done)), (by first | rfl | (simp [IntKind.wrap_u32]; done)), Aside0.mk AL639.out, ⟨HS.out⟩⟩
            · have AL639 := sum_r AL639
              have AL639 := sum_r AL639
              have AL639 := sum_r AL639
              have AL639 := sum_l AL639
              refine (quitrentref06_Name.calls x644 (.inr (.inr (.inr (.inl t156)))) _ ⟨HGl0.out.pass (l := []) HS.out⟩ ⟨HGl1.out.pass (l := []) HS.out⟩ ⟨Sep.start _⟩ HA646).mono ?_
              rintro e_ w653 ⟨rfl, hS⟩
              replace HS : Aside0 (Sep (fps []) w [] w653) := ⟨HS.out.call hS⟩
              clear hS
              by_cases c654 : (([108, 101, 97, 102] : List UInt8) == a2.toList) = true
              · replace AL639 := if_yes c654 AL639
                have c654b0 : (([108, 101, 97, 102] : List UInt8) == a2.toList) = true := c654
                have c654b1 : (!(([108, 101, 97, 102] : List UInt8) == a2.toList)) = false := by rw [c654b0]; rfl
                clear c654
                go_wp2_with fail
                go_roundg k641
                case measure => exact Nat.lt_succ_self _
                case rel => exact ⟨(x644), (true), (wrap64 (x644 + 1)), (by first | rfl | (simp [IntKind.wrap_u32]; done)), (by first | rfl | (simp [IntKind.wrap_u32]; done)), (by first | rfl | (simp [IntKind.wrap_u32]; done)), Aside0.mk AL639.out, ⟨HS.out⟩⟩
              · replace AL639 := if_no c654 AL639
                have c654b0 : (([108, 101, 97, 102] : List UInt8) == a2.toList) = false := by simpa using c654
                have c654b1 : (!(([108, 101, 97, 102] : List UInt8) == a2.toList)) = true := by rw [c654b0]; rfl
                clear c654
                go_wp2_with fail
                go_roundg k641
                case measure => exact Nat.lt_succ_self _
                case rel => exact ⟨(x642), (x643), (wrap64 (x644 + 1)), (by first | rfl | (simp [IntKind.wrap_u32]; done)), (by first | rfl | (simp [IntKind.wrap_u32]; done)), (by first | rfl | (simp [IntKind.wrap_u32]; done)), Aside0.mk AL639.out, ⟨HS.out⟩⟩
            · have AL639 := sum_r AL639
              have AL639 := sum_r AL639
              have AL639 := sum_r AL639
              have AL639 := sum_r AL639
              refine (quitrentref06_Name.calls x644 (.inr (.inr (.inr (.inr t157)))) _ ⟨HGl0.out.pass (l := []) HS.out⟩ ⟨HGl1.out.pass (l := []) HS.out⟩ ⟨Sep.start _⟩ HA646).mono ?_
              rintro e_ w655 ⟨rfl, hS⟩
              replace HS : Aside0 (Sep (fps []) w [] w655) := ⟨HS.out.call hS⟩
              clear hS
              by_cases c656 : (([] : List UInt8) == a2.toList) = true
              · replace AL639 := if_yes c656 AL639
                have c656b0 : (([] : List UInt8) == a2.toList) = true := c656
                have c656b1 : (!(([] : List UInt8) == a2.toList)) = false := by rw [c656b0]; rfl
                clear c656
                go_wp2_with fail
                go_roundg k641
                case measure => exact Nat.lt_succ_self _
                case rel => exact ⟨(x644), (true), (wrap64 (x644 + 1)), (by first | rfl | (simp [IntKind.wrap_u32]; done)), (by first | rfl | (simp [IntKind.wrap_u32]; done)), (by first | rfl | (simp [IntKind.wrap_u32]; done)), Aside0.mk AL639.out, ⟨HS.out⟩⟩
              · replace AL639 := if_no c656 AL639
                have c656b0 : (([] : List UInt8) == a2.toList) = false := by simpa using c656
                have c656b1 : (!(([] : List UInt8) == a2.toList)) = true := by rw [c656b0]; rfl
                clear c656
                go_wp2_with fail
                go_roundg k641
                case measure => exact Nat.lt_succ_self _
                case rel => exact ⟨(x642), (x643), (wrap64 (x644 + 1)), (by first | rfl | (simp [IntKind.wrap_u32]; done)), (by first | rfl | (simp [IntKind.wrap_u32]; done)), (by first | rfl | (simp [IntKind.wrap_u32]; done)), Aside0.mk AL639.out, ⟨HS.out⟩⟩
          · replace AL639 := if_no c645 AL639
            have c645b0 : decide (x644 < 4) = false := decide_eq_false c645
            clear c645
            have ho := some_eq AL639
            subst ho
            clear AL639
            go_wp2_with fail
            obtain ⟨t526, HA657, H⟩ := bind_some H
            refine (quitrentlaw06_begun.calls _ t526 _ ⟨HGl0.out.pass (l := []) HS.out⟩ ⟨HGl1.out.pass (l := []) HS.out⟩ ⟨Sep.start _⟩ HA657).mono ?_
            rintro e_ w658 ⟨rfl, hS⟩
            replace HS : Aside0 (Sep (fps []) w [] w658) := ⟨HS.out.call hS⟩
            clear hS
            by_cases c659 : t526 = true
            · replace H := if_yes c659 H
              have c659b0 : t526 = true := c659
              have c659b1 : (!t526) = false := by rw [c659b0]; rfl
              clear c659
              by_cases c660 : t139.1 = x642
              · replace H := if_yes c660 H
                have c660b0 : (t139.1 == x642) = true := beq_iff_eq.mpr c660
                have c660b1 : (t139.1 != x642) = false := bne_eq_false_iff_eq.mpr c660
                clear c660
                by_cases c661 : t139.2 = true
                · replace H := if_yes c661 H
                  have c661b0 : t139.2 = true := c661
                  have c661b1 : (!t139.2) = false := by rw [c661b0]; rfl
                  clear c661
                  by_cases c662 : x643 = true
                  · replace H := if_yes c662 H
                    have c662b0 : x643 = true := c662
                    have c662b1 : (!x643) = false := by rw [c662b0]; rfl
                    clear c662
                    go_wp2_with fail
                    go_ret
                    rw [← some_eq H]
                    exact ⟨(by first | rfl | (simp [IntKind.wrap_u32]; done)), HS.out⟩
                  · replace H := if_no c662 H
                    have c662b0 : x643 = false := by simpa using c662
                    have c662b1 : (!x643) = true := by rw [c662b0]; rfl
                    clear c662
                    go_wp2_with fail
                    go_ret
                    rw [← some_eq H]
                    exact ⟨(by first | rfl | (simp [IntKind.wrap_u32]; done)), HS.out⟩
                · replace H := if_no c661 H
                  have c661b0 : t139.2 = false := by simpa using c661
                  have c661b1 : (!t139.2) = true := by rw [c661b0]; rfl
                  clear c661
                  by_cases c663 : x643 = true
                  · replace H := if_yes c663 H
                    have c663b0 : x643 = true := c663
                    have c663b1 : (!x643) = false := by rw [c663b0]; rfl
                    clear c663
                    go_wp2_with fail
                    go_ret
                    rw [← some_eq H]
                    exact ⟨(by first | rfl | (simp [IntKind.wrap_u32]; done)), HS.out⟩
                  · replace H := if_no c663 H
                    have c663b0 : x643 = false := by simpa using c663
                    have c663b1 : (!x643) = true := by rw [c663b0]; rfl
                    clear c663
                    go_wp2_with fail
                    go_ret
                    rw [← some_eq H]
                    exact ⟨(by first | rfl | (simp [IntKind.wrap_u32]; done)), HS.out⟩
              · replace H := if_no c660 H
                have c660b0 : (t139.1 == x642) = false := beq_eq_false_iff_ne.mpr c660
                have c660b1 : (t139.1 != x642) = true := bne_iff_ne.mpr c660
                clear c660
                go_wp2_with fail
                go_ret
                rw [← some_eq H]
                exact ⟨(by first | rfl | (simp [IntKind.wrap_u32]; done)), HS.out⟩
            · replace H := if_no c659 H
              have c659b0 : t526 = false := by simpa using c659
              have c659b1 : (!t526) = true := by rw [c659b0]; rfl
              clear c659
              go_wp2_with fail
              go_ret
              rw [← some_eq H]
              exact ⟨(by first | rfl | (simp [IntKind.wrap_u32]; done)), HS.out⟩
    · have H := sum_r H
      have H := sum_r H
      have H := sum_r H
      have H := sum_l H
      refine (quitrentref06_Name.calls a1 (.inr (.inr (.inr (.inl t95)))) _ ⟨HGl0.out.pass (l := []) HS.out⟩ ⟨HGl1.out.pass (l := []) HS.out⟩ ⟨Sep.start _⟩ HA631).mono ?_
      rintro e_ w672 ⟨rfl, hS⟩
      replace HS : Aside0 (Sep (fps []) w [] w672) := ⟨HS.out.call hS⟩
      clear hS
      go_wp2_with fail
      go_ret
      rw [← some_eq H]
      exact ⟨(by first | rfl | (simp [IntKind.wrap_u32]; done)), HS.out⟩
    · have H := sum_r H
      have H := sum_r H
      have H := sum_r H
      have H := sum_r H
      refine (quitrentref06_Name.calls a1 (.inr (.inr (.inr (.inr t96)))) _ ⟨HGl0.out.pass (l := []) HS.out⟩ ⟨HGl1.out.pass (l := []) HS.out⟩ ⟨Sep.start _⟩ HA631).mono ?_
      rintro e_ w673 ⟨rfl, hS⟩
      replace HS : Aside0 (Sep (fps []) w [] w673) := ⟨HS.out.call hS⟩
      clear hS
      go_wp2_with fail
      go_ret
      rw [← some_eq H]
      exact ⟨(by first | rfl | (simp [IntKind.wrap_u32]; done)), HS.out⟩
  · have H := sum_r H
    have H := sum_r H
    have H := sum_r H
    have H := sum_r H
    refine (tag_Name.calls a1 (.inr (.inr (.inr (.inr t70)))) _ ⟨HGl0.out.pass (l := []) HS.out⟩ ⟨HGl1.out.pass (l := []) HS.out⟩ ⟨Sep.start _⟩ HA65).mono ?_
    rintro e_ w674 ⟨rfl, hS⟩
    replace HS : Aside0 (Sep (fps []) w [] w674) := ⟨HS.out.call hS⟩
    clear hS
    go_wp2_with fail
    obtain ⟨t90, HA675, H⟩ := bind_some H
    rcases t90 with t92 | (t93 | (t94 | (t95 | t96)))
    · have H := sum_l H
      refine (quitrentref06_Name.calls a1 (.inl t92) _ ⟨HGl0.out.pass (l := []) HS.out⟩ ⟨HGl1.out.pass (l := []) HS.out⟩ ⟨Sep.start _⟩ HA675).mono ?_
      rintro e_ w676 ⟨rfl, hS⟩
      replace HS : Aside0 (Sep (fps []) w [] w676) := ⟨HS.out.call hS⟩
      clear hS
      go_wp2_with fail
      go_ret
      rw [← some_eq H]
      exact ⟨(by first | rfl | (simp [IntKind.wrap_u32]; done)), HS.out⟩
    · have H := sum_r H
      have H := sum_l H
      refine (quitrentref06_Name.calls a1 (.inr (.inl t93)) _ ⟨HGl0.out.pass (l := []) HS.out⟩ ⟨HGl1.out.pass (l := []) HS.out⟩ ⟨Sep.start _⟩ HA675).mono ?_
      rintro e_ w677 ⟨rfl, hS⟩
      replace HS : Aside0 (Sep (fps []) w [] w677) := ⟨HS.out.call hS⟩
      clear hS
      go_wp2_with fail
      go_ret
      rw [← some_eq H]
      exact ⟨(by first | rfl | (simp [IntKind.wrap_u32]; done)), HS.out⟩
    · have H := sum_r H
      have H := sum_r H
      have H := sum_l H
      refine (quitrentref06_Name.calls a1 (.inr (.inr (.inl t94))) _ ⟨HGl0.out.pass (l := []) HS.out⟩ ⟨HGl1.out.pass (l := []) HS.out⟩ ⟨Sep.start _⟩ HA675).mono ?_
      rintro e_ w678 ⟨rfl, hS⟩
      replace HS : Aside0 (Sep (fps []) w [] w678) := ⟨HS.out.call hS⟩
      clear hS
      go_wp2_with fail
      go_ret
      rw [← some_eq H]
      exact ⟨(by first | rfl | (simp [IntKind.wrap_u32]; done)), HS.out⟩
    · have H := sum_r H
      have H := sum_r H
      have H := sum_r H
      have H := sum_l H
      refine (quitrentref06_Name.calls a1 (.inr (.inr (.inr (.inl t95)))) _ ⟨HGl0.out.pass (l := []) HS.out⟩ ⟨HGl1.out.pass (l := []) HS.out⟩ ⟨Sep.start _⟩ HA675).mono ?_
      rintro e_ w679 ⟨rfl, hS⟩
      replace HS : Aside0 (Sep (fps []) w [] w679) := ⟨HS.out.call hS⟩
      clear hS
      go_wp2_with fail
      obtain ⟨t139, HA680, H⟩ := bind_some H
      refine (tag_Kind.calls _ a2 t139 _ ⟨HGl0.out.pass (l := []) HS.out⟩ ⟨HGl1.out.pass (l := []) HS.out⟩ ⟨Sep.start _⟩ HA680).mono ?_
      rintro e_ w681 ⟨rfl, hS⟩
      replace HS : Aside0 (Sep (fps []) w [] w681) := ⟨HS.out.call hS⟩
      clear hS
      go_wp2_with fail
      obtain ⟨o683, AL684, H⟩ := bind_some H
      go_loopg [7, 8, 9] k (fun kq v7 v8 v9 wc => ∃ (x687 : Int) (x688 : Bool) (x689 : Int), v7 = .int .i64 x687 ∧ v8 = .bool x688 ∧ v9 = .int .i64 x689 ∧ Aside0 (quitrentlaw06_TagNames.lo4 kq a2 x687 x688 x689 = some o683) ∧ Aside0 (Sep (fps []) w [] wc))
      case atStart => exact ⟨(0), (false), (0), (by first | rfl | (simp [IntKind.wrap_u32]; done)), (by first | rfl | (simp [IntKind.wrap_u32]; done)), (by first | rfl | (simp [IntKind.wrap_u32]; done)), AL684, ⟨HS.out⟩⟩
      case round =>
        clear AL684 HS
        obtain ⟨x687, x688, x689, rfl, rfl, rfl, AL684, HS⟩ := hrel
        obtain ⟨w685, rfl⟩ : ∃ x : World, x = wr := ⟨_, rfl⟩
        cases gk with
        | zero => exact absurd AL684.out (by simp [quitrentlaw06_TagNames.lo4])
        | succ k686 =>
          have AL0 := AL684.out
          rw [quitrentlaw06_TagNames.lo4] at AL0
          clear AL684
          have AL684 := Aside0.mk AL0
          clear AL0
          by_cases c690 : x689 < 4
          · replace AL684 := if_yes c690 AL684
            have c690b0 : decide (x689 < 4) = true := decide_eq_true c690
            clear c690
            go_wp2_with fail
            obtain ⟨t151, HA691, AL684⟩ := bind_some AL684
            rcases t151 with t153 | (t154 | (t155 | (t156 | t157)))
            · have AL684 := sum_l AL684
              refine (quitrentref06_Name.calls x689 (.inl t153) _ ⟨HGl0.out.pass (l := []) HS.out⟩ ⟨HGl1.out.pass (l := []) HS.out⟩ ⟨Sep.start _⟩ HA691).mono ?_
              rintro e_ w692 ⟨rfl, hS⟩
              replace HS : Aside0 (Sep (fps []) w [] w692) := ⟨HS.out.call hS⟩
              clear hS
              by_cases c693 : (([102, 114, 101, 101] : List UInt8) == a2.toList) = true
              · replace AL684 := if_yes c693 AL684
                have c693b0 : (([102, 114, 101, 101] : List UInt8) == a2.toList) = true := c693
                have c693b1 : (!(([102, 114, 101, 101] : List UInt8) == a2.toList)) = false := by rw [c693b0]; rfl
                clear c693
                go_wp2_with fail
                go_roundg k686
                case measure => exact Nat.lt_succ_self _
                case rel => exact ⟨(x689), (true), (wrap64 (x689 + 1)), (by first | rfl | (simp [IntKind.wrap_u32]; done)), (by first | rfl | (simp [IntKind.wrap_u32]; done)), (by first | rfl | (simp [IntKind.wrap_u32]; done)), Aside0.mk AL684.out, ⟨HS.out⟩⟩
              · replace AL684 := if_no c693 AL684
                have c693b0 : (([102, 114, 101, 101] : List UInt8) == a2.toList) = false := by simpa using c693
                have c693b1 : (!(([102, 114, 101, 101] : List UInt8) == a2.toList)) = true := by rw [c693b0]; rfl
                clear c693
                go_wp2_with fail
                go_roundg k686
                case measure => exact Nat.lt_succ_self _
                case rel => exact ⟨(x687), (x688), (wrap64 (x689 + 1)), (by first | rfl | (simp [IntKind.wrap_u32]; done)), (by first | rfl | (simp [IntKind.wrap_u32]; done)), (by first | rfl | (simp [IntKind.wrap_u32]; done)), Aside0.mk AL684.out, ⟨HS.out⟩⟩
            · have AL684 := sum_r AL684
              have AL684 := sum_l AL684
              refine (quitrentref06_Name.calls x689 (.inr (.inl t154)) _ ⟨HGl0.out.pass (l := []) HS.out⟩ ⟨HGl1.out.pass (l := []) HS.out⟩ ⟨Sep.start _⟩ HA691).mono ?_
              rintro e_ w694 ⟨rfl, hS⟩
              replace HS : Aside0 (Sep (fps []) w [] w694) := ⟨HS.out.call hS⟩
              clear hS
              by_cases c695 : (([115, 109, 97, 108, 108] : List UInt8) == a2.toList) = true
              · replace AL684 := if_yes c695 AL684
                have c695b0 : (([115, 109, 97, 108, 108] : List UInt8) == a2.toList) = true := c695
                have c695b1 : (!(([115, 109, 97, 108, 108] : List UInt8) == a2.toList)) = false := by rw [c695b0]; rfl
                clear c695
                go_wp2_with fail
                go_roundg k686
                case measure => exact Nat.lt_succ_self _
                case rel => exact ⟨(x689), (true), (wrap64 (x689 + 1)), (by first | rfl | (simp [IntKind.wrap_u32]; done)), (by first | rfl | (simp [IntKind.wrap_u32]; done)), (by first | rfl | (simp [IntKind.wrap_u32]; done)), Aside0.mk AL684.out, ⟨HS.out⟩⟩
              · replace AL684 := if_no c695 AL684
                have c695b0 : (([115, 109, 97, 108, 108] : List UInt8) == a2.toList) = false := by simpa using c695
                have c695b1 : (!(([115, 109, 97, 108, 108] : List UInt8) == a2.toList)) = true := by rw [c695b0]; rfl
                clear c695
                go_wp2_with fail
                go_roundg k686
                case measure => exact Nat.lt_succ_self _
                case rel => exact ⟨(x687), (x688), (wrap64 (x689 + 1)), (by first | rfl | (simp [IntKind.wrap_u32]; done)), (by first | rfl | (simp [IntKind.wrap_u32]; done)), (by first | rfl | (simp [IntKind.wrap_u32]; done)), Aside0.mk AL684.out, ⟨HS.out⟩⟩
            · have AL684 := sum_r AL684
              have AL684 := sum_r AL684
              have AL684 := sum_l AL684
              refine (quitrentref06_Name.calls x689 (.inr (.inr (.inl t155))) _ ⟨HGl0.out.pass (l := []) HS.out⟩ ⟨HGl1.out.pass (l := []) HS.out⟩ ⟨Sep.start _⟩ HA691).mono ?_
              rintro e_ w696 ⟨rfl, hS⟩
              replace HS : Aside0 (Sep (fps []) w [] w696) := ⟨HS.out.call hS⟩
              clear hS
              by_cases c697 : (([115, 112, 105, 110, 101] : List UInt8) == a2.toList) = true
              · replace AL684 := if_yes c697 AL684
                have c697b0 : (([115, 112, 105, 110, 101] : List UInt8) == a2.toList) = true := c697
                have c697b1 : (!(([115, 112, 105, 110, 101] : List UInt8) == a2.toList)) = false := by rw [c697b0]; rfl
                clear c697
                go_wp2_with fail
                go_roundg k686
                case measure => exact Nat.lt_succ_self _
                case rel => exact ⟨(x689), (true), (wrap64 (x689 + 1)), (by first | rfl | (simp [IntKind.wrap_u32]; done)), (by first | rfl | (simp [IntKind.wrap_u32]; done)), (by first | rfl | (simp [IntKind.wrap_u32]; done)), Aside0.mk AL684.out, ⟨HS.out⟩⟩
              · replace AL684 := if_no c697 AL684
                have c697b0 : (([115, 112, 105, 110, 101] : List UInt8) == a2.toList) = false := by simpa using c697
                have c697b1 : (!(([115, 112, 105, 110, 101] : List UInt8) == a2.toList)) = true := by rw [c697b0]; rfl
                clear c697
                go_wp2_with fail
                go_roundg k686
                case measure => exact Nat.lt_succ_self _
                case rel => exact ⟨(x687), (x688), (wrap64 (x689 + 1)), (by first | rfl | (simp [IntKind.wrap_u32]; done)), (by first | rfl | (simp [IntKind.wrap_u32]; done)), (by first | rfl | (simp [IntKind.wrap_u32]; done)), Aside0.mk AL684.out, ⟨HS.out⟩⟩
            · have AL684 := sum_r AL684
              have AL684 := sum_r AL684
              have AL684 := sum_r AL684
              have AL684 := sum_l AL684
              refine (quitrentref06_Name.calls x689 (.inr (.inr (.inr (.inl t156)))) _ ⟨HGl0.out.pass (l := []) HS.out⟩ ⟨HGl1.out.pass (l := []) HS.out⟩ ⟨Sep.start _⟩ HA691).mono ?_
              rintro e_ w698 ⟨rfl, hS⟩
              replace HS : Aside0 (Sep (fps []) w [] w698) := ⟨HS.out.call hS⟩
              clear hS
              by_cases c699 : (([108, 101, 97, 102] : List UInt8) == a2.toList) = true
              · replace AL684 := if_yes c699 AL684
                have c699b0 : (([108, 101, 97, 102] : List UInt8) == a2.toList) = true := c699
                have c699b1 : (!(([108, 101, 97, 102] : List UInt8) == a2.toList)) = false := by rw [c699b0]; rfl
                clear c699
                go_wp2_with fail
                go_roundg k686
                case measure => exact Nat.lt_succ_self _
                case rel => exact ⟨(x689), (true), (wrap64 (x689 + 1)), (by first | rfl | (simp [IntKind.wrap_u32]; done)), (by first | rfl | (simp [IntKind.wrap_u32]; done)), (by first | rfl | (simp [IntKind.wrap_u32]; done)), Aside0.mk AL684.out, ⟨HS.out⟩⟩
              · replace AL684 := if_no c699 AL684
                have c699b0 : (([108, 101, 97, 102] : List UInt8) == a2.toList) = false := by simpa using c699
                have c699b1 : (!(([108, 101, 97, 102] : List UInt8) == a2.toList)) = true := by rw [c699b0]; rfl
                clear c699
                go_wp2_with fail
                go_roundg k686
                case measure => exact Nat.lt_succ_self _
                case rel => exact ⟨(x687), (x688), (wrap64 (x689 + 1)), (by first | rfl | (simp [IntKind.wrap_u32]; done)), (by first | rfl | (simp [IntKind.wrap_u32]; done)), (by first | rfl | (simp [IntKind.wrap_u32]; done)), Aside0.mk AL684.out, ⟨HS.out⟩⟩
            · have AL684 := sum_r AL684
              have AL684 := sum_r AL684
              have AL684 := sum_r AL684
              have AL684 := sum_r AL684
              refine (quitrentref06_Name.calls x689 (.inr (.inr (.inr (.inr t157)))) _ ⟨HGl0.out.pass (l := []) HS.out⟩ ⟨HGl1.out.pass (l := []) HS.out⟩ ⟨Sep.start _⟩ HA691).mono ?_
              rintro e_ w700 ⟨rfl, hS⟩
              replace HS : Aside0 (Sep (fps []) w [] w700) := ⟨HS.out.call hS⟩
              clear hS
              by_cases c701 : (([] : List UInt8) == a2.toList) = true
              · replace AL684 := if_yes c701 AL684
                have c701b0 : (([] : List UInt8) == a2.toList) = true := c701
                have c701b1 : (!(([] : List UInt8) == a2.toList)) = false := by rw [c701b0]; rfl
                clear c701
                go_wp2_with fail
                go_roundg k686
                case measure => exact Nat.lt_succ_self _
                case rel => exact ⟨(x689), (true), (wrap64 (x689 + 1)), (by first | rfl | (simp [IntKind.wrap_u32]; done)), (by first | rfl | (simp [IntKind.wrap_u32]; done)), (by first | rfl | (simp [IntKind.wrap_u32]; done)), Aside0.mk AL684.out, ⟨HS.out⟩⟩
              · replace AL684 := if_no c701 AL684
                have c701b0 : (([] : List UInt8) == a2.toList) = false := by simpa using c701
                have c701b1 : (!(([] : List UInt8) == a2.toList)) = true := by rw [c701b0]; rfl
                clear c701
                go_wp2_with fail
                go_roundg k686
                case measure => exact Nat.lt_succ_self _
                case rel => exact ⟨(x687), (x688), (wrap64 (x689 + 1)), (by first | rfl | (simp [IntKind.wrap_u32]; done)), (by first | rfl | (simp [IntKind.wrap_u32]; done)), (by first | rfl | (simp [IntKind.wrap_u32]; done)), Aside0.mk AL684.out, ⟨HS.out⟩⟩
          · replace AL684 := if_no c690 AL684
            have c690b0 : decide (x689 < 4) = false := decide_eq_false c690
            clear c690
            have ho := some_eq AL684
            subst ho
            clear AL684
            go_wp2_with fail
            obtain ⟨t526, HA702, H⟩ := bind_some H
            refine (quitrentlaw06_begun.calls _ t526 _ ⟨HGl0.out.pass (l := []) HS.out⟩ ⟨HGl1.out.pass (l := []) HS.out⟩ ⟨Sep.start _⟩ HA702).mono ?_
            rintro e_ w703 ⟨rfl, hS⟩
            replace HS : Aside0 (Sep (fps []) w [] w703) := ⟨HS.out.call hS⟩
            clear hS
            by_cases c704 : t526 = true
            · replace H := if_yes c704 H
              have c704b0 : t526 = true := c704
              have c704b1 : (!t526) = false := by rw [c704b0]; rfl
              clear c704
              by_cases c705 : t139.1 = x687
              · replace H := if_yes c705 H
                have c705b0 : (t139.1 == x687) = true := beq_iff_eq.mpr c705
                have c705b1 : (t139.1 != x687) = false := bne_eq_false_iff_eq.mpr c705
                clear c705
                by_cases c706 : t139.2 = true
                · replace H := if_yes c706 H
                  have c706b0 : t139.2 = true := c706
                  have c706b1 : (!t139.2) = false := by rw [c706b0]; rfl
                  clear c706
                  by_cases c707 : x688 = true
                  · replace H := if_yes c707 H
                    have c707b0 : x688 = true := c707
                    have c707b1 : (!x688) = false := by rw [c707b0]; rfl
                    clear c707
                    go_wp2_with fail
                    go_ret
                    rw [← some_eq H]
                    exact ⟨(by first | rfl | (simp [IntKind.wrap_u32]; done)), HS.out⟩
                  · replace H := if_no c707 H
                    have c707b0 : x688 = false := by simpa using c707
                    have c707b1 : (!x688) = true := by rw [c707b0]; rfl
                    clear c707
                    go_wp2_with fail
                    go_ret
                    rw [← some_eq H]
                    exact ⟨(by first | rfl | (simp [IntKind.wrap_u32]; done)), HS.out⟩
                · replace H := if_no c706 H
                  have c706b0 : t139.2 = false := by simpa using c706
                  have c706b1 : (!t139.2) = true := by rw [c706b0]; rfl
                  clear c706
                  by_cases c708 : x688 = true
                  · replace H := if_yes c708 H
                    have c708b0 : x688 = true := c708
                    have c708b1 : (!x688) = false := by rw [c708b0]; rfl
                    clear c708
                    go_wp2_with fail
                    go_ret
                    rw [← some_eq H]
                    exact ⟨(by first | rfl | (simp [IntKind.wrap_u32]; done)), HS.out⟩
                  · replace H := if_no c708 H
                    have c708b0 : x688 = false := by simpa using c708
                    have c708b1 : (!x688) = true := by rw [c708b0]; rfl
                    clear c708
                    go_wp2_with fail
                    go_ret
                    rw [← some_eq H]
                    exact ⟨(by first | rfl | (simp [IntKind.wrap_u32]; done)), HS.out⟩
              · replace H := if_no c705 H
                have c705b0 : (t139.1 == x687) = false := beq_eq_false_iff_ne.mpr c705
                have c705b1 : (t139.1 != x687) = true := bne_iff_ne.mpr c705
                clear c705
                go_wp2_with fail
                go_ret
                rw [← some_eq H]
                exact ⟨(by first | rfl | (simp [IntKind.wrap_u32]; done)), HS.out⟩
            · replace H := if_no c704 H
              have c704b0 : t526 = false := by simpa using c704
              have c704b1 : (!t526) = true := by rw [c704b0]; rfl
              clear c704
              go_wp2_with fail
              go_ret
              rw [← some_eq H]
              exact ⟨(by first | rfl | (simp [IntKind.wrap_u32]; done)), HS.out⟩
    · have H := sum_r H
      have H := sum_r H
      have H := sum_r H
      have H := sum_r H
      refine (quitrentref06_Name.calls a1 (.inr (.inr (.inr (.inr t96)))) _ ⟨HGl0.out.pass (l := []) HS.out⟩ ⟨HGl1.out.pass (l := []) HS.out⟩ ⟨Sep.start _⟩ HA675).mono ?_
      rintro e_ w717 ⟨rfl, hS⟩
      replace HS : Aside0 (Sep (fps []) w [] w717) := ⟨HS.out.call hS⟩
      clear hS
      go_wp2_with fail
      go_ret
      rw [← some_eq H]
      exact ⟨(by first | rfl | (simp [IntKind.wrap_u32]; done)), HS.out⟩
end Go.Proofs.YtgkpcboaiaiahabDoor.C

/- Each function of the group W does what its plain function says, and changes nothing that was there; proved by walking its code. No condition. -/
import Derived.Test.YtgkpcboaiaiahabDoorQw
import Derived.Test.YtgkpcboaiaiahabDoorMW
import Derived.Test.YtgkpcboaiaiahabDoorGW0
namespace Go.Proofs.YtgkpcboaiaiahabDoor.C
open Go.RowKit Go.Proofs.YtgkpcboaiaiahabDoorW.PrintWords Go.Proofs.YtgkpcboaiaiahabDoorW.PrintLast Go.Proofs.YtgkpcboaiaiahabDoor.Q Go.Proofs.YtgkpcboaiaiahabDoor.M
set_option linter.unusedVariables false
set_option linter.unusedSimpArgs false
set_option maxHeartbeats 30000000 in
set_option maxRecDepth 100000 in
theorem tag_Right.calls (k : Nat) (a613 : Int) (a614 : Int) (a615 : Int) (a616 : Int) (a617 : Int) (a618 : Int) (a619 : Int) (r : Bool) (w : World)  (HGl0 : Aside0 (Gl 0 #[.int .i64 0, .int .i64 0, .int .i64 0, .int .i64 0, .int .i64 0] (fps []) w)) (HS : Aside0 (Sep (fps []) w [] w)) (H : Aside0 (tag_Right.f k a613 a614 a615 a616 a617 a618 a619 = some r)) :
    Calls Tryd.prog 10 #[.agg #[.int .i64 a613, .int .i64 a614, .int .i64 a615, .int .i64 a616, .int .i64 a617, .int .i64 a618, .int .i64 a619]] w fun e w' => e = .returned (.bool r) ∧ Sep (fps []) w [] w' := by
  unfold tag_Right.f at H
  go_enter Tryd.func10, Tryd.ntmps10
  go_wp2_with (first | ((with_reducible refine gate_dst (N := 1) rfl ?_); refine box_on ?hg (N := 1) ?hd (cs := #[.int .i64 a613, .int .i64 a614, .int .i64 a615, .int .i64 a616, .int .i64 a617, .int .i64 a618, .int .i64 a619]) (t := 23) ?hr ?_; (case hd => rfl); (case hg => rfl); (case hr => first | (go_simp; done) | (go_simp; rfl)); intro g620 hg w621 hbox hb; replace HS : Aside0 (Sep (fps []) w [b5 g620 a613 a614 a615 a616 a617 a618 a619] w621) := ⟨HS.out.box hg hbox hb⟩; clear hg hbox hb; have hc623 : w621.cell? ⟨g620, 0, none⟩ = some (.int .i64 a613) := blk_cellv (HS.out.at0) 0 rfl; have hc624 : w621.cell? ⟨g620, 1, none⟩ = some (.int .i64 a614) := blk_cellv (HS.out.at0) 1 rfl; have hc625 : w621.cell? ⟨g620, 2, none⟩ = some (.int .i64 a615) := blk_cellv (HS.out.at0) 2 rfl; have hc626 : w621.cell? ⟨g620, 3, none⟩ = some (.int .i64 a616) := blk_cellv (HS.out.at0) 3 rfl; have hc627 : w621.cell? ⟨g620, 4, none⟩ = some (.int .i64 a617) := blk_cellv (HS.out.at0) 4 rfl; have hc628 : w621.cell? ⟨g620, 5, none⟩ = some (.int .i64 a618) := blk_cellv (HS.out.at0) 5 rfl; have hc629 : w621.cell? ⟨g620, 6, none⟩ = some (.int .i64 a619) := blk_cellv (HS.out.at0) 6 rfl))
  clear hc623 hc624 hc625 hc626 hc627 hc628 hc629
  obtain ⟨t664, HA665, H⟩ := bind_some H
  refine (tag_marks.calls a613 a614 a615 a616 a617 a618 a619 t664 _ ⟨HGl0.out.pass (l := []) HS.out⟩ ⟨Sep.start _⟩ HA665).mono ?_
  rintro e_ w666 ⟨rfl, hS⟩
  replace HS : Aside0 (Sep (fps []) w [b5 g620 a613 a614 a615 a616 a617 a618 a619] w666) := ⟨HS.out.call hS⟩
  clear hS
  go_wp2_with fail
  obtain ⟨o679, AL680, H⟩ := bind_some H
  go_loopg [7] k (fun kq v7 wc => ∃ (x683 : Int), v7 = .int .i64 x683 ∧ Aside0 (tag_Right.lo0 kq t664 x683 = some o679) ∧ Aside0 (Sep (fps []) w [b5 g620 a613 a614 a615 a616 a617 a618 a619] wc))
  case atStart => exact ⟨(0), (by first | rfl | (simp [IntKind.wrap_u32]; done)), AL680, ⟨HS.out⟩⟩
  case round =>
    clear AL680 HS
    obtain ⟨x683, rfl, AL680, HS⟩ := hrel
    obtain ⟨w681, rfl⟩ : ∃ x : World, x = wr := ⟨_, rfl⟩
    cases gk with
    | zero => exact absurd AL680.out (by simp [tag_Right.lo0])
    | succ k682 =>
      have AL0 := AL680.out
      rw [tag_Right.lo0] at AL0
      clear AL680
      have AL680 := Aside0.mk AL0
      clear AL0
      by_cases c684 : x683 < 5
      · replace AL680 := if_yes c684 AL680
        have c684b0 : decide (x683 < 5) = true := decide_eq_true c684
        clear c684
        by_cases c685 : 0 ≤ x683
        · replace AL680 := if_yes c685 AL680
          have c685b0 : decide (0 ≤ x683) = true := decide_eq_true c685
          have c685p : (0 ≤ x683) = True := eq_true c685
          clear c685
          have ip686 : (x683 < 5) = True := eq_true (of_decide_eq_true c684b0)
          have ix687 : ∀ w, (Instr.index 51 (.agg #[.int .i64 t664.1, .int .i64 t664.2.1, .int .i64 t664.2.2.1, .int .i64 t664.2.2.2.1, .int .i64 t664.2.2.2.2]) (.int .i64 x683)).run Tryd.prog w = .ok (.int .i64 (rd [t664.1, t664.2.1, t664.2.2.1, t664.2.2.2.1, t664.2.2.2.2] x683)) w := run_index_ints 51 3 5 .i64 .i64 [t664.1, t664.2.1, t664.2.2.1, t664.2.2.2.1, t664.2.2.2.2] x683 Tryd.underlying51 (fun _ => by kernel_rfl) (fun _ => by kernel_rfl) rfl (of_decide_eq_true c685b0) (of_decide_eq_true c684b0)
          by_cases c688 : (rd [t664.1, t664.2.1, t664.2.2.1, t664.2.2.2.1, t664.2.2.2.2] x683) = 0
          · replace AL680 := if_yes c688 AL680
            have c688b0 : ((rd [t664.1, t664.2.1, t664.2.2.1, t664.2.2.2.1, t664.2.2.2.2] x683) == 0) = true := beq_iff_eq.mpr c688
            have c688b1 : ((rd [t664.1, t664.2.1, t664.2.2.1, t664.2.2.2.1, t664.2.2.2.2] x683) != 0) = false := bne_eq_false_iff_eq.mpr c688
            clear c688
            go_wp2_with fail
            go_roundg k682
            case measure => exact Nat.lt_succ_self _
            case rel => exact ⟨(wrap64 (x683 + 1)), (by first | rfl | (simp [IntKind.wrap_u32]; done)), Aside0.mk AL680.out, ⟨HS.out⟩⟩
          · replace AL680 := if_no c688 AL680
            have c688b0 : ((rd [t664.1, t664.2.1, t664.2.2.1, t664.2.2.2.1, t664.2.2.2.2] x683) == 0) = false := beq_eq_false_iff_ne.mpr c688
            have c688b1 : ((rd [t664.1, t664.2.1, t664.2.2.1, t664.2.2.2.1, t664.2.2.2.2] x683) != 0) = true := bne_iff_ne.mpr c688
            clear c688
            by_cases c689 : (rd [t664.1, t664.2.1, t664.2.2.1, t664.2.2.2.1, t664.2.2.2.2] x683) = 1
            · replace AL680 := if_yes c689 AL680
              have c689b0 : ((rd [t664.1, t664.2.1, t664.2.2.1, t664.2.2.2.1, t664.2.2.2.2] x683) == 1) = true := beq_iff_eq.mpr c689
              have c689b1 : ((rd [t664.1, t664.2.1, t664.2.2.1, t664.2.2.2.1, t664.2.2.2.2] x683) != 1) = false := bne_eq_false_iff_eq.mpr c689
              clear c689
              go_wp2_with fail
              go_roundg k682
              case measure => exact Nat.lt_succ_self _
              case rel => exact ⟨(wrap64 (x683 + 1)), (by first | rfl | (simp [IntKind.wrap_u32]; done)), Aside0.mk AL680.out, ⟨HS.out⟩⟩
            · replace AL680 := if_no c689 AL680
              have c689b0 : ((rd [t664.1, t664.2.1, t664.2.2.1, t664.2.2.2.1, t664.2.2.2.2] x683) == 1) = false := beq_eq_false_iff_ne.mpr c689
              have c689b1 : ((rd [t664.1, t664.2.1, t664.2.2.1, t664.2.2.2.1, t664.2.2.2.2] x683) != 1) = true := bne_iff_ne.mpr c689
              clear c689
              go_wp2_with fail
              have ho := some_eq AL680
              subst ho
              have H := lp_ret H
              go_ret
              rw [← some_eq H]
              exact ⟨(by first | rfl | (simp [IntKind.wrap_u32]; done)), HS.out.sub (.cons _ .slnil)⟩
        · replace AL680 := if_no c685 AL680
          have c685b0 : decide (0 ≤ x683) = false := decide_eq_false c685
          clear c685
          exact (none_no AL680).elim
      · replace AL680 := if_no c684 AL680
        have c684b0 : decide (x683 < 5) = false := decide_eq_false c684
        clear c684
        have ho := some_eq AL680
        subst ho
        clear AL680
        have H := lp_out H
        by_cases c691 : a613 = 1
        · replace H := if_yes c691 H
          have c691b0 : (a613 == 1) = true := beq_iff_eq.mpr c691
          have c691b1 : (a613 != 1) = false := bne_eq_false_iff_eq.mpr c691
          clear c691
          have hc690 : w681.cell? ⟨g620, 0, none⟩ = some (.int .i64 a613) := blk_cellv (HS.out.at0) 0 rfl
          have hc692 : w681.cell? ⟨g620, 6, none⟩ = some (.int .i64 a619) := blk_cellv (HS.out.at0) 6 rfl
          replace HS : Aside0 (Sep (fps []) w [] w681) := ⟨HS.out.sub (.cons _ .slnil)⟩
          go_wp2_with fail
          clear hc690 hc692
          go_ret
          rw [← some_eq H]
          exact ⟨(by first | rfl | (simp [IntKind.wrap_u32]; done)), HS.out⟩
        · replace H := if_no c691 H
          have c691b0 : (a613 == 1) = false := beq_eq_false_iff_ne.mpr c691
          have c691b1 : (a613 != 1) = true := bne_iff_ne.mpr c691
          clear c691
          by_cases c693 : a613 = 2
          · replace H := if_yes c693 H
            have c693b0 : (a613 == 2) = true := beq_iff_eq.mpr c693
            have c693b1 : (a613 != 2) = false := bne_eq_false_iff_eq.mpr c693
            clear c693
            have hc690 : w681.cell? ⟨g620, 0, none⟩ = some (.int .i64 a613) := blk_cellv (HS.out.at0) 0 rfl
            have hc694 : w681.cell? ⟨g620, 6, none⟩ = some (.int .i64 a619) := blk_cellv (HS.out.at0) 6 rfl
            replace HS : Aside0 (Sep (fps []) w [] w681) := ⟨HS.out.sub (.cons _ .slnil)⟩
            go_wp2_with fail
            clear hc690 hc694
            go_ret
            rw [← some_eq H]
            exact ⟨(by first | rfl | (simp [IntKind.wrap_u32]; done)), HS.out⟩
          · replace H := if_no c693 H
            have c693b0 : (a613 == 2) = false := beq_eq_false_iff_ne.mpr c693
            have c693b1 : (a613 != 2) = true := bne_iff_ne.mpr c693
            clear c693
            by_cases c695 : a613 = 0
            · replace H := if_yes c695 H
              have c695b0 : (a613 == 0) = true := beq_iff_eq.mpr c695
              have c695b1 : (a613 != 0) = false := bne_eq_false_iff_eq.mpr c695
              clear c695
              have hc690 : w681.cell? ⟨g620, 0, none⟩ = some (.int .i64 a613) := blk_cellv (HS.out.at0) 0 rfl
              go_wp2_with fail
              clear hc690
              refine start_ (n := 25) (S := (fun w' => w'.cell? ⟨g620, 0, none⟩ = some (.int .i64 a613) ∧ w'.cell? ⟨g620, 1, none⟩ = some (.int .i64 a614) ∧ w'.cell? ⟨g620, 2, none⟩ = some (.int .i64 a615) ∧ w'.cell? ⟨g620, 3, none⟩ = some (.int .i64 a616) ∧ w'.cell? ⟨g620, 4, none⟩ = some (.int .i64 a617) ∧ w'.cell? ⟨g620, 5, none⟩ = some (.int .i64 a618) ∧ w'.cell? ⟨g620, 6, none⟩ = some (.int .i64 a619) ∧ w'.cell? ⟨0, 0, none⟩ = some (.int .i64 0) ∧ w'.cell? ⟨0, 1, none⟩ = some (.int .i64 0) ∧ w'.cell? ⟨0, 2, none⟩ = some (.int .i64 0) ∧ w'.cell? ⟨0, 3, none⟩ = some (.int .i64 0) ∧ w'.cell? ⟨0, 4, none⟩ = some (.int .i64 0))) (ds := []) #[false, false, false, false, false, false, false, false, false, false, false, false, false, false, false, false, false, false, false, false, false, false, false, false, false] (by kernel_rfl) rfl rfl (⟨blk_cellv ((HS.out.drew).at0) 0 rfl, blk_cellv ((HS.out.drew).at0) 1 rfl, blk_cellv ((HS.out.drew).at0) 2 rfl, blk_cellv ((HS.out.drew).at0) 3 rfl, blk_cellv ((HS.out.drew).at0) 4 rfl, blk_cellv ((HS.out.drew).at0) 5 rfl, blk_cellv ((HS.out.drew).at0) 6 rfl, Gl.cell HGl0.out (HS.out.drew).fr 0 rfl, Gl.cell HGl0.out (HS.out.drew).fr 1 rfl, Gl.cell HGl0.out (HS.out.drew).fr 2 rfl, Gl.cell HGl0.out (HS.out.drew).fr 3 rfl, Gl.cell HGl0.out (HS.out.drew).fr 4 rfl⟩) (fun hHeld => ?_)
              have HS_ := Aside0.mk HS.out.drew
              clear HS
              generalize World.drew _ = w697 at HS_ hHeld ⊢
              have HS := HS_
              clear HS_
              refine take_ (i := 0) (N := some 28) (v := ?_) (a' := ?_) #[true, false, false, false, false, false, false, false, false, false, false, false, false, false, false, false, false, false, false, false, false, false, false, false, false] rfl rfl (by kernel_rfl) (fun _ _ _ h => h) (Or.inl ⟨by rfl, ?_⟩) hHeld ?_ ?_
              rotate_left
              · rintro w' hS'
                obtain ⟨s0, s1, s2, s3, s4, s5, s6, s7, s8, s9, s10, s11⟩ := hS'
                go_simp
                with_reducible rfl
              rotate_left
              · simp only [Act.put, List.setIfInBounds_toArray, List.set_cons_zero, List.set_cons_succ, i64_w, i32_w]
                rfl
              refine take_ (i := 2) (N := some 30) (v := ?_) (a' := ?_) #[true, false, true, false, false, false, false, false, false, false, false, false, false, false, false, false, false, false, false, false, false, false, false, false, false] rfl rfl (by kernel_rfl) (fun _ _ _ h => h) (Or.inl ⟨by rfl, ?_⟩) hHeld ?_ ?_
              rotate_left
              · rintro w' hS'
                obtain ⟨s0, s1, s2, s3, s4, s5, s6, s7, s8, s9, s10, s11⟩ := hS'
                go_simp
                with_reducible rfl
              rotate_left
              · simp only [Act.put, List.setIfInBounds_toArray, List.set_cons_zero, List.set_cons_succ, i64_w, i32_w]
                rfl
              refine one_ (i := 1) (N := some 29) #[true, true, true, false, false, false, false, false, false, false, false, false, false, false, false, false, false, false, false, false, false, false, false, false, false] rfl rfl (by kernel_rfl) (by decide) (fun K hK => ?_)
              obtain ⟨t698, HA699, H⟩ := bind_some H
              refine goes_ Tryd.func23 (by kernel_rfl) rfl #[.agg #[.int .i64 a613, .int .i64 a614, .int .i64 a615, .int .i64 a616, .int .i64 a617, .int .i64 a618, .int .i64 a619]] (by rfl) rfl rfl (by (try simp only [List.map_toArray, List.map_cons, List.map_nil]); first | done | rfl) ?_
              refine (tag_marks.calls a613 a614 a615 a616 a617 a618 a619 t698 _ ⟨HGl0.out.pass (l := []) HS.out⟩ ⟨Sep.start _⟩ HA699).mono ?_
              rintro e_ w700 ⟨rfl, hS⟩
              replace HS : Aside0 (Sep (fps []) w [b5 g620 a613 a614 a615 a616 a617 a618 a619] w700) := ⟨HS.out.call hS⟩
              clear hS
              refine ⟨_, rfl, ?_⟩
              refine hK.out _ _ (⟨blk_cellv (HS.out.at0) 0 rfl, blk_cellv (HS.out.at0) 1 rfl, blk_cellv (HS.out.at0) 2 rfl, blk_cellv (HS.out.at0) 3 rfl, blk_cellv (HS.out.at0) 4 rfl, blk_cellv (HS.out.at0) 5 rfl, blk_cellv (HS.out.at0) 6 rfl, Gl.cell HGl0.out HS.out.fr 0 rfl, Gl.cell HGl0.out HS.out.fr 1 rfl, Gl.cell HGl0.out HS.out.fr 2 rfl, Gl.cell HGl0.out HS.out.fr 3 rfl, Gl.cell HGl0.out HS.out.fr 4 rfl⟩) (fun hHeld => ?_)
              clear hK K
              refine norm_ (a' := ?_) ?_ ?_
              rotate_left
              · show Act.put _ (some 29) _ = _
                simp only [Act.put, List.setIfInBounds_toArray, List.set_cons_zero, List.set_cons_succ, i64_w, i32_w]
                rfl
              obtain ⟨b702, HA703, H⟩ := bind_some H
              have eb701 : ∀ w, (Op.equalIn 10000 51 (.agg #[.int .i64 t698.1, .int .i64 t698.2.1, .int .i64 t698.2.2.1, .int .i64 t698.2.2.2.1, .int .i64 t698.2.2.2.2]) (.agg #[.int .i64 0, .int .i64 0, .int .i64 0, .int .i64 0, .int .i64 0])).run Tryd.prog w = .ok b702 w := some_eq HA703 ▸ run_eq_ints 9998 51 3 5 .i64 [t698.1, t698.2.1, t698.2.2.1, t698.2.2.2.1, t698.2.2.2.2] [0, 0, 0, 0, 0] Tryd.underlying51 (by kernel_rfl) (by kernel_rfl) Tryd.underlying3 (fun _ => by kernel_rfl) rfl rfl
              refine pure_ (i := 3) (N := some 31) (v := ?_) (a' := ?_) #[true, true, true, true, false, false, false, false, false, false, false, false, false, false, false, false, false, false, false, false, false, false, false, false, false] rfl rfl (by kernel_rfl) (fun _ _ _ h => h) (Or.inl ⟨by rfl, ?_⟩) ?_ ?_
              rotate_left
              · intro w'
                go_simp
                with_reducible rfl
              rotate_left
              · simp only [Act.put, List.setIfInBounds_toArray, List.set_cons_zero, List.set_cons_succ, i64_w, i32_w]
                rfl
              refine pure_ (i := 4) (N := some 32) (v := ?_) (a' := ?_) #[true, true, true, true, true, false, false, false, false, false, false, false, false, false, false, false, false, false, false, false, false, false, false, false, false] rfl rfl (by kernel_rfl) (fun _ _ _ h => h) (Or.inl ⟨by rfl, ?_⟩) ?_ ?_
              rotate_left
              · intro w'
                go_simp
                with_reducible rfl
              rotate_left
              · simp only [Act.put, List.setIfInBounds_toArray, List.set_cons_zero, List.set_cons_succ, i64_w, i32_w]
                rfl
              by_cases c704 : b702 = true
              · replace H := if_yes c704 H
                have c704b0 : b702 = true := c704
                have c704b1 : (!b702) = false := by rw [c704b0]; rfl
                clear c704
                try simp only [c704b0, Bool.not_true, Bool.not_false]
                refine pure_ (i := 5) (N := some 33) (v := ?_) (a' := ?_) #[true, true, true, true, true, true, false, false, false, false, false, false, false, false, false, false, false, false, false, false, false, false, false, false, false] rfl rfl (by kernel_rfl) (fun _ _ _ h => h) (Or.inl ⟨by rfl, ?_⟩) ?_ ?_
                rotate_left
                · intro w'
                  go_simp
                  with_reducible rfl
                rotate_left
                · simp only [Act.put, List.setIfInBounds_toArray, List.set_cons_zero, List.set_cons_succ, i64_w, i32_w]
                  rfl
                try simp only [c704b0, Bool.not_true, Bool.not_false]
                refine take_ (i := 6) (N := some 34) (v := ?_) (a' := ?_) #[true, true, true, true, true, true, true, false, false, false, false, false, false, false, false, false, false, false, false, false, false, false, false, false, false] rfl rfl (by kernel_rfl) (fun _ _ _ h => h) (Or.inl ⟨by rfl, ?_⟩) hHeld ?_ ?_
                rotate_left
                · rintro w' hS'
                  obtain ⟨s0, s1, s2, s3, s4, s5, s6, s7, s8, s9, s10, s11⟩ := hS'
                  go_simp
                  with_reducible rfl
                rotate_left
                · simp only [Act.put, List.setIfInBounds_toArray, List.set_cons_zero, List.set_cons_succ, i64_w, i32_w]
                  rfl
                try simp only [c704b0, Bool.not_true, Bool.not_false]
                refine pure_ (i := 7) (N := some 35) (v := ?_) (a' := ?_) #[true, true, true, true, true, true, true, true, false, false, false, false, false, false, false, false, false, false, false, false, false, false, false, false, false] rfl rfl (by kernel_rfl) (fun _ _ _ h => h) (Or.inl ⟨by rfl, ?_⟩) ?_ ?_
                rotate_left
                · intro w'
                  go_simp
                  with_reducible rfl
                rotate_left
                · simp only [Act.put, List.setIfInBounds_toArray, List.set_cons_zero, List.set_cons_succ, i64_w, i32_w]
                  rfl
                refine pure_ (i := 8) (N := some 36) (v := ?_) (a' := ?_) #[true, true, true, true, true, true, true, true, true, false, false, false, false, false, false, false, false, false, false, false, false, false, false, false, false] rfl rfl (by kernel_rfl) (fun _ _ _ h => h) (Or.inl ⟨by rfl, ?_⟩) ?_ ?_
                rotate_left
                · intro w'
                  go_simp
                  with_reducible rfl
                rotate_left
                · simp only [Act.put, List.setIfInBounds_toArray, List.set_cons_zero, List.set_cons_succ, i64_w, i32_w]
                  rfl
                refine pure_ (i := 9) (N := some 37) (v := ?_) (a' := ?_) #[true, true, true, true, true, true, true, true, true, true, false, false, false, false, false, false, false, false, false, false, false, false, false, false, false] rfl rfl (by kernel_rfl) (fun _ _ _ h => h) (Or.inl ⟨by rfl, ?_⟩) ?_ ?_
                rotate_left
                · intro w'
                  go_simp
                  with_reducible rfl
                rotate_left
                · simp only [Act.put, List.setIfInBounds_toArray, List.set_cons_zero, List.set_cons_succ, i64_w, i32_w]
                  rfl
                by_cases c705 : a619 ≥ 0
                · replace H := if_yes c705 H
                  have c705b0 : decide (0 ≤ a619) = true := decide_eq_true c705
                  clear c705
                  try simp only [c705b0, Bool.not_true, Bool.not_false]
                  refine pure_ (i := 10) (N := some 38) (v := ?_) (a' := ?_) #[true, true, true, true, true, true, true, true, true, true, true, false, false, false, false, false, false, false, false, false, false, false, false, false, false] rfl rfl (by kernel_rfl) (fun _ _ _ h => h) (Or.inl ⟨by rfl, ?_⟩) ?_ ?_
                  rotate_left
                  · intro w'
                    go_simp
                    with_reducible rfl
                  rotate_left
                  · simp only [Act.put, List.setIfInBounds_toArray, List.set_cons_zero, List.set_cons_succ, i64_w, i32_w]
                    rfl
                  try simp only [c705b0, Bool.not_true, Bool.not_false]
                  refine take_ (i := 11) (N := some 39) (v := ?_) (a' := ?_) #[true, true, true, true, true, true, true, true, true, true, true, true, false, false, false, false, false, false, false, false, false, false, false, false, false] rfl rfl (by kernel_rfl) (fun _ _ _ h => h) (Or.inl ⟨by rfl, ?_⟩) hHeld ?_ ?_
                  rotate_left
                  · rintro w' hS'
                    obtain ⟨s0, s1, s2, s3, s4, s5, s6, s7, s8, s9, s10, s11⟩ := hS'
                    go_simp
                    with_reducible rfl
                  rotate_left
                  · simp only [Act.put, List.setIfInBounds_toArray, List.set_cons_zero, List.set_cons_succ, i64_w, i32_w]
                    rfl
                  try simp only [c705b0, Bool.not_true, Bool.not_false]
                  refine pure_ (i := 12) (N := some 40) (v := ?_) (a' := ?_) #[true, true, true, true, true, true, true, true, true, true, true, true, true, false, false, false, false, false, false, false, false, false, false, false, false] rfl rfl (by kernel_rfl) (fun _ _ _ h => h) (Or.inl ⟨by rfl, ?_⟩) ?_ ?_
                  rotate_left
                  · intro w'
                    go_simp
                    with_reducible rfl
                  rotate_left
                  · simp only [Act.put, List.setIfInBounds_toArray, List.set_cons_zero, List.set_cons_succ, i64_w, i32_w]
                    rfl
                  refine pure_ (i := 13) (N := some 41) (v := ?_) (a' := ?_) #[true, true, true, true, true, true, true, true, true, true, true, true, true, true, false, false, false, false, false, false, false, false, false, false, false] rfl rfl (by kernel_rfl) (fun _ _ _ h => h) (Or.inl ⟨by rfl, ?_⟩) ?_ ?_
                  rotate_left
                  · intro w'
                    go_simp
                    with_reducible rfl
                  rotate_left
                  · simp only [Act.put, List.setIfInBounds_toArray, List.set_cons_zero, List.set_cons_succ, i64_w, i32_w]
                    rfl
                  refine pure_ (i := 14) (N := some 42) (v := ?_) (a' := ?_) #[true, true, true, true, true, true, true, true, true, true, true, true, true, true, true, false, false, false, false, false, false, false, false, false, false] rfl rfl (by kernel_rfl) (fun _ _ _ h => h) (Or.inl ⟨by rfl, ?_⟩) ?_ ?_
                  rotate_left
                  · intro w'
                    go_simp
                    with_reducible rfl
                  rotate_left
                  · simp only [Act.put, List.setIfInBounds_toArray, List.set_cons_zero, List.set_cons_succ, i64_w, i32_w]
                    rfl
                  by_cases c706 : a619 < 1048576
                  · replace H := if_yes c706 H
                    have c706b0 : decide (a619 < 1048576) = true := decide_eq_true c706
                    clear c706
                    try simp only [c706b0, Bool.not_true, Bool.not_false]
                    refine pure_ (i := 15) (N := some 43) (v := ?_) (a' := ?_) #[true, true, true, true, true, true, true, true, true, true, true, true, true, true, true, true, false, false, false, false, false, false, false, false, false] rfl rfl (by kernel_rfl) (fun _ _ _ h => h) (Or.inl ⟨by rfl, ?_⟩) ?_ ?_
                    rotate_left
                    · intro w'
                      go_simp
                      with_reducible rfl
                    rotate_left
                    · simp only [Act.put, List.setIfInBounds_toArray, List.set_cons_zero, List.set_cons_succ, i64_w, i32_w]
                      rfl
                    try simp only [c706b0, Bool.not_true, Bool.not_false]
                    refine take_ (i := 16) (N := some 44) (v := ?_) (a' := ?_) #[true, true, true, true, true, true, true, true, true, true, true, true, true, true, true, true, true, false, false, false, false, false, false, false, false] rfl rfl (by kernel_rfl) (fun _ _ _ h => h) (Or.inl ⟨by rfl, ?_⟩) hHeld ?_ ?_
                    rotate_left
                    · rintro w' hS'
                      obtain ⟨s0, s1, s2, s3, s4, s5, s6, s7, s8, s9, s10, s11⟩ := hS'
                      go_simp
                      with_reducible rfl
                    rotate_left
                    · simp only [Act.put, List.setIfInBounds_toArray, List.set_cons_zero, List.set_cons_succ, i64_w, i32_w]
                      rfl
                    try simp only [c706b0, Bool.not_true, Bool.not_false]
                    refine pure_ (i := 17) (N := some 45) (v := ?_) (a' := ?_) #[true, true, true, true, true, true, true, true, true, true, true, true, true, true, true, true, true, true, false, false, false, false, false, false, false] rfl rfl (by kernel_rfl) (fun _ _ _ h => h) (Or.inl ⟨by rfl, ?_⟩) ?_ ?_
                    rotate_left
                    · intro w'
                      go_simp
                      with_reducible rfl
                    rotate_left
                    · simp only [Act.put, List.setIfInBounds_toArray, List.set_cons_zero, List.set_cons_succ, i64_w, i32_w]
                      rfl
                    try simp only [c706b0, Bool.not_true, Bool.not_false]
                    refine pure_ (i := 18) (N := some 46) (v := ?_) (a' := ?_) #[true, true, true, true, true, true, true, true, true, true, true, true, true, true, true, true, true, true, true, false, false, false, false, false, false] rfl rfl (by kernel_rfl) (fun _ _ _ h => h) (Or.inl ⟨by rfl, ?_⟩) ?_ ?_
                    rotate_left
                    · intro w'
                      go_simp
                      with_reducible rfl
                    rotate_left
                    · simp only [Act.put, List.setIfInBounds_toArray, List.set_cons_zero, List.set_cons_succ, i64_w, i32_w]
                      rfl
                    by_cases c707 : a613 = 3
                    · replace H := if_yes c707 H
                      have c707b0 : (a613 == 3) = true := beq_iff_eq.mpr c707
                      have c707b1 : (a613 != 3) = false := bne_eq_false_iff_eq.mpr c707
                      clear c707
                      try simp only [c707b0, c707b1, Bool.not_true, Bool.not_false]
                      refine pure_ (i := 19) (N := some 47) (v := undef) (a' := ?_) #[true, true, true, true, true, true, true, true, true, true, true, true, true, true, true, true, true, true, true, true, false, false, false, false, false] rfl rfl (by kernel_rfl) (fun _ _ _ h => h) (Or.inr ⟨by rfl, rfl⟩) ?_ ?_
                      rotate_left
                      · simp only [Act.put, List.setIfInBounds_toArray, List.set_cons_zero, List.set_cons_succ, i64_w, i32_w]
                        rfl
                      try simp only [c707b0, c707b1, Bool.not_true, Bool.not_false]
                      refine pure_ (i := 20) (N := some 48) (v := undef) (a' := ?_) #[true, true, true, true, true, true, true, true, true, true, true, true, true, true, true, true, true, true, true, true, true, false, false, false, false] rfl rfl (by kernel_rfl) (fun _ _ _ h => h) (Or.inr ⟨by rfl, rfl⟩) ?_ ?_
                      rotate_left
                      · simp only [Act.put, List.setIfInBounds_toArray, List.set_cons_zero, List.set_cons_succ, i64_w, i32_w]
                        rfl
                      try simp only [c707b0, c707b1, Bool.not_true, Bool.not_false]
                      refine pure_ (i := 21) (N := some 49) (v := undef) (a' := ?_) #[true, true, true, true, true, true, true, true, true, true, true, true, true, true, true, true, true, true, true, true, true, true, false, false, false] rfl rfl (by kernel_rfl) (fun _ _ _ h => h) (Or.inr ⟨by rfl, rfl⟩) ?_ ?_
                      rotate_left
                      · simp only [Act.put, List.setIfInBounds_toArray, List.set_cons_zero, List.set_cons_succ, i64_w, i32_w]
                        rfl
                      try simp only [c706b0, Bool.not_true, Bool.not_false]
                      refine pure_ (i := 22) (N := some 50) (v := ?_) (a' := ?_) #[true, true, true, true, true, true, true, true, true, true, true, true, true, true, true, true, true, true, true, true, true, true, true, false, false] rfl rfl (by kernel_rfl) (fun _ _ _ h => h) (Or.inl ⟨by rfl, ?_⟩) ?_ ?_
                      rotate_left
                      · intro w'
                        go_simp
                        with_reducible rfl
                      rotate_left
                      · simp only [Act.put, List.setIfInBounds_toArray, List.set_cons_zero, List.set_cons_succ, i64_w, i32_w]
                        rfl
                      refine pure_ (i := 23) (N := some 51) (v := ?_) (a' := ?_) #[true, true, true, true, true, true, true, true, true, true, true, true, true, true, true, true, true, true, true, true, true, true, true, true, false] rfl rfl (by kernel_rfl) (fun _ _ _ h => h) (Or.inl ⟨by rfl, ?_⟩) ?_ ?_
                      rotate_left
                      · intro w'
                        go_simp
                        with_reducible rfl
                      rotate_left
                      · simp only [Act.put, List.setIfInBounds_toArray, List.set_cons_zero, List.set_cons_succ, i64_w, i32_w]
                        rfl
                      refine pure_ (i := 24) (N := some 2) (v := ?_) (a' := ?_) #[true, true, true, true, true, true, true, true, true, true, true, true, true, true, true, true, true, true, true, true, true, true, true, true, true] rfl rfl (by kernel_rfl) (fun _ _ _ h => h) (Or.inl ⟨by rfl, ?_⟩) ?_ ?_
                      rotate_left
                      · intro w'
                        go_simp
                        with_reducible rfl
                      rotate_left
                      · simp only [Act.put, List.setIfInBounds_toArray, List.set_cons_zero, List.set_cons_succ, i64_w, i32_w]
                        rfl
                      refine done_ (by kernel_rfl) ?_
                      replace HS : Aside0 (Sep (fps []) w [] w700) := ⟨HS.out.sub (.cons _ .slnil)⟩
                      go_wp2_with fail
                      go_ret
                      rw [← some_eq H]
                      exact ⟨(by first | rfl | (simp [IntKind.wrap_u32]; done)), HS.out⟩
                    · replace H := if_no c707 H
                      have c707b0 : (a613 == 3) = false := beq_eq_false_iff_ne.mpr c707
                      have c707b1 : (a613 != 3) = true := bne_iff_ne.mpr c707
                      clear c707
                      try simp only [c707b0, c707b1, Bool.not_true, Bool.not_false]
                      refine pure_ (i := 19) (N := some 47) (v := ?_) (a' := ?_) #[true, true, true, true, true, true, true, true, true, true, true, true, true, true, true, true, true, true, true, true, false, false, false, false, false] rfl rfl (by kernel_rfl) (fun _ _ _ h => h) (Or.inl ⟨by rfl, ?_⟩) ?_ ?_
                      rotate_left
                      · intro w'
                        go_simp
                        with_reducible rfl
                      rotate_left
                      · simp only [Act.put, List.setIfInBounds_toArray, List.set_cons_zero, List.set_cons_succ, i64_w, i32_w]
                        rfl
                      try simp only [c707b0, c707b1, Bool.not_true, Bool.not_false]
                      refine take_ (i := 20) (N := some 48) (v := ?_) (a' := ?_) #[true, true, true, true, true, true, true, true, true, true, true, true, true, true, true, true, true, true, true, true, true, false, false, false, false] rfl rfl (by kernel_rfl) (fun _ _ _ h => h) (Or.inl ⟨by rfl, ?_⟩) hHeld ?_ ?_
                      rotate_left
                      · rintro w' hS'
                        obtain ⟨s0, s1, s2, s3, s4, s5, s6, s7, s8, s9, s10, s11⟩ := hS'
                        go_simp
                        with_reducible rfl
                      rotate_left
                      · simp only [Act.put, List.setIfInBounds_toArray, List.set_cons_zero, List.set_cons_succ, i64_w, i32_w]
                        rfl
                      try simp only [c707b0, c707b1, Bool.not_true, Bool.not_false]
                      refine pure_ (i := 21) (N := some 49) (v := ?_) (a' := ?_) #[true, true, true, true, true, true, true, true, true, true, true, true, true, true, true, true, true, true, true, true, true, true, false, false, false] rfl rfl (by kernel_rfl) (fun _ _ _ h => h) (Or.inl ⟨by rfl, ?_⟩) ?_ ?_
                      rotate_left
                      · intro w'
                        go_simp
                        with_reducible rfl
                      rotate_left
                      · simp only [Act.put, List.setIfInBounds_toArray, List.set_cons_zero, List.set_cons_succ, i64_w, i32_w]
                        rfl
                      try simp only [c706b0, Bool.not_true, Bool.not_false]
                      refine pure_ (i := 22) (N := some 50) (v := ?_) (a' := ?_) #[true, true, true, true, true, true, true, true, true, true, true, true, true, true, true, true, true, true, true, true, true, true, true, false, false] rfl rfl (by kernel_rfl) (fun _ _ _ h => h) (Or.inl ⟨by rfl, ?_⟩) ?_ ?_
                      rotate_left
                      · intro w'
                        go_simp
                        with_reducible rfl
                      rotate_left
                      · simp only [Act.put, List.setIfInBounds_toArray, List.set_cons_zero, List.set_cons_succ, i64_w, i32_w]
                        rfl
                      refine pure_ (i := 23) (N := some 51) (v := ?_) (a' := ?_) #[true, true, true, true, true, true, true, true, true, true, true, true, true, true, true, true, true, true, true, true, true, true, true, true, false] rfl rfl (by kernel_rfl) (fun _ _ _ h => h) (Or.inl ⟨by rfl, ?_⟩) ?_ ?_
                      rotate_left
                      · intro w'
                        go_simp
                        with_reducible rfl
                      rotate_left
                      · simp only [Act.put, List.setIfInBounds_toArray, List.set_cons_zero, List.set_cons_succ, i64_w, i32_w]
                        rfl
                      refine pure_ (i := 24) (N := some 2) (v := ?_) (a' := ?_) #[true, true, true, true, true, true, true, true, true, true, true, true, true, true, true, true, true, true, true, true, true, true, true, true, true] rfl rfl (by kernel_rfl) (fun _ _ _ h => h) (Or.inl ⟨by rfl, ?_⟩) ?_ ?_
                      rotate_left
                      · intro w'
                        go_simp
                        with_reducible rfl
                      rotate_left
                      · simp only [Act.put, List.setIfInBounds_toArray, List.set_cons_zero, List.set_cons_succ, i64_w, i32_w]
                        rfl
                      refine done_ (by kernel_rfl) ?_
                      replace HS : Aside0 (Sep (fps []) w [] w700) := ⟨HS.out.sub (.cons _ .slnil)⟩
                      go_wp2_with fail
                      go_ret
                      rw [← some_eq H]
                      exact ⟨(by first | rfl | (simp [IntKind.wrap_u32]; done)), HS.out⟩
                  · replace H := if_no c706 H
                    have c706b0 : decide (a619 < 1048576) = false := decide_eq_false c706
                    clear c706
                    try simp only [c706b0, Bool.not_true, Bool.not_false]
                    refine pure_ (i := 15) (N := some 43) (v := undef) (a' := ?_) #[true, true, true, true, true, true, true, true, true, true, true, true, true, true, true, true, false, false, false, false, false, false, false, false, false] rfl rfl (by kernel_rfl) (fun _ _ _ h => h) (Or.inr ⟨by rfl, rfl⟩) ?_ ?_
                    rotate_left
                    · simp only [Act.put, List.setIfInBounds_toArray, List.set_cons_zero, List.set_cons_succ, i64_w, i32_w]
                      rfl
                    try simp only [c706b0, Bool.not_true, Bool.not_false]
                    refine pure_ (i := 16) (N := some 44) (v := undef) (a' := ?_) #[true, true, true, true, true, true, true, true, true, true, true, true, true, true, true, true, true, false, false, false, false, false, false, false, false] rfl rfl (by kernel_rfl) (fun _ _ _ h => h) (Or.inr ⟨by rfl, rfl⟩) ?_ ?_
                    rotate_left
                    · simp only [Act.put, List.setIfInBounds_toArray, List.set_cons_zero, List.set_cons_succ, i64_w, i32_w]
                      rfl
                    try simp only [c706b0, Bool.not_true, Bool.not_false]
                    refine pure_ (i := 17) (N := some 45) (v := undef) (a' := ?_) #[true, true, true, true, true, true, true, true, true, true, true, true, true, true, true, true, true, true, false, false, false, false, false, false, false] rfl rfl (by kernel_rfl) (fun _ _ _ h => h) (Or.inr ⟨by rfl, rfl⟩) ?_ ?_
                    rotate_left
                    · simp only [Act.put, List.setIfInBounds_toArray, List.set_cons_zero, List.set_cons_succ, i64_w, i32_w]
                      rfl
                    try simp only [c706b0, Bool.not_true, Bool.not_false]
                    refine pure_ (i := 18) (N := some 46) (v := undef) (a' := ?_) #[true, true, true, true, true, true, true, true, true, true, true, true, true, true, true, true, true, true, true, false, false, false, false, false, false] rfl rfl (by kernel_rfl) (fun _ _ _ h => h) (Or.inr ⟨by rfl, rfl⟩) ?_ ?_
                    rotate_left
                    · simp only [Act.put, List.setIfInBounds_toArray, List.set_cons_zero, List.set_cons_succ, i64_w, i32_w]
                      rfl
                    refine pure_ (i := 19) (N := some 47) (v := undef) (a' := ?_) #[true, true, true, true, true, true, true, true, true, true, true, true, true, true, true, true, true, true, true, true, false, false, false, false, false] rfl rfl (by kernel_rfl) (fun _ _ _ h => h) (Or.inr ⟨by rfl, rfl⟩) ?_ ?_
                    rotate_left
                    · simp only [Act.put, List.setIfInBounds_toArray, List.set_cons_zero, List.set_cons_succ, i64_w, i32_w]
                      rfl
                    refine pure_ (i := 20) (N := some 48) (v := undef) (a' := ?_) #[true, true, true, true, true, true, true, true, true, true, true, true, true, true, true, true, true, true, true, true, true, false, false, false, false] rfl rfl (by kernel_rfl) (fun _ _ _ h => h) (Or.inr ⟨by rfl, rfl⟩) ?_ ?_
                    rotate_left
                    · simp only [Act.put, List.setIfInBounds_toArray, List.set_cons_zero, List.set_cons_succ, i64_w, i32_w]
                      rfl
                    refine pure_ (i := 21) (N := some 49) (v := undef) (a' := ?_) #[true, true, true, true, true, true, true, true, true, true, true, true, true, true, true, true, true, true, true, true, true, true, false, false, false] rfl rfl (by kernel_rfl) (fun _ _ _ h => h) (Or.inr ⟨by rfl, rfl⟩) ?_ ?_
                    rotate_left
                    · simp only [Act.put, List.setIfInBounds_toArray, List.set_cons_zero, List.set_cons_succ, i64_w, i32_w]
                      rfl
                    try simp only [c706b0, Bool.not_true, Bool.not_false]
                    refine pure_ (i := 22) (N := some 50) (v := undef) (a' := ?_) #[true, true, true, true, true, true, true, true, true, true, true, true, true, true, true, true, true, true, true, true, true, true, true, false, false] rfl rfl (by kernel_rfl) (fun _ _ _ h => h) (Or.inr ⟨by rfl, rfl⟩) ?_ ?_
                    rotate_left
                    · simp only [Act.put, List.setIfInBounds_toArray, List.set_cons_zero, List.set_cons_succ, i64_w, i32_w]
                      rfl
                    refine pure_ (i := 23) (N := some 51) (v := ?_) (a' := ?_) #[true, true, true, true, true, true, true, true, true, true, true, true, true, true, true, true, true, true, true, true, true, true, true, true, false] rfl rfl (by kernel_rfl) (fun _ _ _ h => h) (Or.inl ⟨by rfl, ?_⟩) ?_ ?_
                    rotate_left
                    · intro w'
                      go_simp
                      with_reducible rfl
                    rotate_left
                    · simp only [Act.put, List.setIfInBounds_toArray, List.set_cons_zero, List.set_cons_succ, i64_w, i32_w]
                      rfl
                    refine pure_ (i := 24) (N := some 2) (v := ?_) (a' := ?_) #[true, true, true, true, true, true, true, true, true, true, true, true, true, true, true, true, true, true, true, true, true, true, true, true, true] rfl rfl (by kernel_rfl) (fun _ _ _ h => h) (Or.inl ⟨by rfl, ?_⟩) ?_ ?_
                    rotate_left
                    · intro w'
                      go_simp
                      with_reducible rfl
                    rotate_left
                    · simp only [Act.put, List.setIfInBounds_toArray, List.set_cons_zero, List.set_cons_succ, i64_w, i32_w]
                      rfl
                    refine done_ (by kernel_rfl) ?_
                    replace HS : Aside0 (Sep (fps []) w [] w700) := ⟨HS.out.sub (.cons _ .slnil)⟩
                    go_wp2_with fail
                    go_ret
                    rw [← some_eq H]
                    exact ⟨(by first | rfl | (simp [IntKind.wrap_u32]; done)), HS.out⟩
                · replace H := if_no c705 H
                  have c705b0 : decide (0 ≤ a619) = false := decide_eq_false c705
                  clear c705
                  try simp only [c705b0, Bool.not_true, Bool.not_false]
                  refine pure_ (i := 10) (N := some 38) (v := undef) (a' := ?_) #[true, true, true, true, true, true, true, true, true, true, true, false, false, false, false, false, false, false, false, false, false, false, false, false, false] rfl rfl (by kernel_rfl) (fun _ _ _ h => h) (Or.inr ⟨by rfl, rfl⟩) ?_ ?_
                  rotate_left
                  · simp only [Act.put, List.setIfInBounds_toArray, List.set_cons_zero, List.set_cons_succ, i64_w, i32_w]
                    rfl
                  try simp only [c705b0, Bool.not_true, Bool.not_false]
                  refine pure_ (i := 11) (N := some 39) (v := undef) (a' := ?_) #[true, true, true, true, true, true, true, true, true, true, true, true, false, false, false, false, false, false, false, false, false, false, false, false, false] rfl rfl (by kernel_rfl) (fun _ _ _ h => h) (Or.inr ⟨by rfl, rfl⟩) ?_ ?_
                  rotate_left
                  · simp only [Act.put, List.setIfInBounds_toArray, List.set_cons_zero, List.set_cons_succ, i64_w, i32_w]
                    rfl
                  try simp only [c705b0, Bool.not_true, Bool.not_false]
                  refine pure_ (i := 12) (N := some 40) (v := undef) (a' := ?_) #[true, true, true, true, true, true, true, true, true, true, true, true, true, false, false, false, false, false, false, false, false, false, false, false, false] rfl rfl (by kernel_rfl) (fun _ _ _ h => h) (Or.inr ⟨by rfl, rfl⟩) ?_ ?_
                  rotate_left
                  · simp only [Act.put, List.setIfInBounds_toArray, List.set_cons_zero, List.set_cons_succ, i64_w, i32_w]
                    rfl
                  refine pure_ (i := 13) (N := some 41) (v := ?_) (a' := ?_) #[true, true, true, true, true, true, true, true, true, true, true, true, true, true, false, false, false, false, false, false, false, false, false, false, false] rfl rfl (by kernel_rfl) (fun _ _ _ h => h) (Or.inl ⟨by rfl, ?_⟩) ?_ ?_
                  rotate_left
                  · intro w'
                    go_simp
                    with_reducible rfl
                  rotate_left
                  · simp only [Act.put, List.setIfInBounds_toArray, List.set_cons_zero, List.set_cons_succ, i64_w, i32_w]
                    rfl
                  refine pure_ (i := 14) (N := some 42) (v := ?_) (a' := ?_) #[true, true, true, true, true, true, true, true, true, true, true, true, true, true, true, false, false, false, false, false, false, false, false, false, false] rfl rfl (by kernel_rfl) (fun _ _ _ h => h) (Or.inl ⟨by rfl, ?_⟩) ?_ ?_
                  rotate_left
                  · intro w'
                    go_simp
                    with_reducible rfl
                  rotate_left
                  · simp only [Act.put, List.setIfInBounds_toArray, List.set_cons_zero, List.set_cons_succ, i64_w, i32_w]
                    rfl
                  refine pure_ (i := 15) (N := some 43) (v := undef) (a' := ?_) #[true, true, true, true, true, true, true, true, true, true, true, true, true, true, true, true, false, false, false, false, false, false, false, false, false] rfl rfl (by kernel_rfl) (fun _ _ _ h => h) (Or.inr ⟨by rfl, rfl⟩) ?_ ?_
                  rotate_left
                  · simp only [Act.put, List.setIfInBounds_toArray, List.set_cons_zero, List.set_cons_succ, i64_w, i32_w]
                    rfl
                  refine pure_ (i := 16) (N := some 44) (v := undef) (a' := ?_) #[true, true, true, true, true, true, true, true, true, true, true, true, true, true, true, true, true, false, false, false, false, false, false, false, false] rfl rfl (by kernel_rfl) (fun _ _ _ h => h) (Or.inr ⟨by rfl, rfl⟩) ?_ ?_
                  rotate_left
                  · simp only [Act.put, List.setIfInBounds_toArray, List.set_cons_zero, List.set_cons_succ, i64_w, i32_w]
                    rfl
                  refine pure_ (i := 17) (N := some 45) (v := undef) (a' := ?_) #[true, true, true, true, true, true, true, true, true, true, true, true, true, true, true, true, true, true, false, false, false, false, false, false, false] rfl rfl (by kernel_rfl) (fun _ _ _ h => h) (Or.inr ⟨by rfl, rfl⟩) ?_ ?_
                  rotate_left
                  · simp only [Act.put, List.setIfInBounds_toArray, List.set_cons_zero, List.set_cons_succ, i64_w, i32_w]
                    rfl
                  refine pure_ (i := 18) (N := some 46) (v := undef) (a' := ?_) #[true, true, true, true, true, true, true, true, true, true, true, true, true, true, true, true, true, true, true, false, false, false, false, false, false] rfl rfl (by kernel_rfl) (fun _ _ _ h => h) (Or.inr ⟨by rfl, rfl⟩) ?_ ?_
                  rotate_left
                  · simp only [Act.put, List.setIfInBounds_toArray, List.set_cons_zero, List.set_cons_succ, i64_w, i32_w]
                    rfl
                  refine pure_ (i := 19) (N := some 47) (v := undef) (a' := ?_) #[true, true, true, true, true, true, true, true, true, true, true, true, true, true, true, true, true, true, true, true, false, false, false, false, false] rfl rfl (by kernel_rfl) (fun _ _ _ h => h) (Or.inr ⟨by rfl, rfl⟩) ?_ ?_
                  rotate_left
                  · simp only [Act.put, List.setIfInBounds_toArray, List.set_cons_zero, List.set_cons_succ, i64_w, i32_w]
                    rfl
                  refine pure_ (i := 20) (N := some 48) (v := undef) (a' := ?_) #[true, true, true, true, true, true, true, true, true, true, true, true, true, true, true, true, true, true, true, true, true, false, false, false, false] rfl rfl (by kernel_rfl) (fun _ _ _ h => h) (Or.inr ⟨by rfl, rfl⟩) ?_ ?_
                  rotate_left
                  · simp only [Act.put, List.setIfInBounds_toArray, List.set_cons_zero, List.set_cons_succ, i64_w, i32_w]
                    rfl
                  refine pure_ (i := 21) (N := some 49) (v := undef) (a' := ?_) #[true, true, true, true, true, true, true, true, true, true, true, true, true, true, true, true, true, true, true, true, true, true, false, false, false] rfl rfl (by kernel_rfl) (fun _ _ _ h => h) (Or.inr ⟨by rfl, rfl⟩) ?_ ?_
                  rotate_left
                  · simp only [Act.put, List.setIfInBounds_toArray, List.set_cons_zero, List.set_cons_succ, i64_w, i32_w]
                    rfl
                  refine pure_ (i := 22) (N := some 50) (v := undef) (a' := ?_) #[true, true, true, true, true, true, true, true, true, true, true, true, true, true, true, true, true, true, true, true, true, true, true, false, false] rfl rfl (by kernel_rfl) (fun _ _ _ h => h) (Or.inr ⟨by rfl, rfl⟩) ?_ ?_
                  rotate_left
                  · simp only [Act.put, List.setIfInBounds_toArray, List.set_cons_zero, List.set_cons_succ, i64_w, i32_w]
                    rfl
                  refine pure_ (i := 23) (N := some 51) (v := ?_) (a' := ?_) #[true, true, true, true, true, true, true, true, true, true, true, true, true, true, true, true, true, true, true, true, true, true, true, true, false] rfl rfl (by kernel_rfl) (fun _ _ _ h => h) (Or.inl ⟨by rfl, ?_⟩) ?_ ?_
                  rotate_left
                  · intro w'
                    go_simp
                    with_reducible rfl
                  rotate_left
                  · simp only [Act.put, List.setIfInBounds_toArray, List.set_cons_zero, List.set_cons_succ, i64_w, i32_w]
                    rfl
                  refine pure_ (i := 24) (N := some 2) (v := ?_) (a' := ?_) #[true, true, true, true, true, true, true, true, true, true, true, true, true, true, true, true, true, true, true, true, true, true, true, true, true] rfl rfl (by kernel_rfl) (fun _ _ _ h => h) (Or.inl ⟨by rfl, ?_⟩) ?_ ?_
                  rotate_left
                  · intro w'
                    go_simp
                    with_reducible rfl
                  rotate_left
                  · simp only [Act.put, List.setIfInBounds_toArray, List.set_cons_zero, List.set_cons_succ, i64_w, i32_w]
                    rfl
                  refine done_ (by kernel_rfl) ?_
                  replace HS : Aside0 (Sep (fps []) w [] w700) := ⟨HS.out.sub (.cons _ .slnil)⟩
                  go_wp2_with fail
                  go_ret
                  rw [← some_eq H]
                  exact ⟨(by first | rfl | (simp [IntKind.wrap_u32]; done)), HS.out⟩
              · replace H := if_no c704 H
                have c704b0 : b702 = false := by simpa using c704
                have c704b1 : (!b702) = true := by rw [c704b0]; rfl
                clear c704
                try simp only [c704b0, Bool.not_true, Bool.not_false]
                refine pure_ (i := 5) (N := some 33) (v := undef) (a' := ?_) #[true, true, true, true, true, true, false, false, false, false, false, false, false, false, false, false, false, false, false, false, false, false, false, false, false] rfl rfl (by kernel_rfl) (fun _ _ _ h => h) (Or.inr ⟨by rfl, rfl⟩) ?_ ?_
                rotate_left
                · simp only [Act.put, List.setIfInBounds_toArray, List.set_cons_zero, List.set_cons_succ, i64_w, i32_w]
                  rfl
                try simp only [c704b0, Bool.not_true, Bool.not_false]
                refine pure_ (i := 6) (N := some 34) (v := undef) (a' := ?_) #[true, true, true, true, true, true, true, false, false, false, false, false, false, false, false, false, false, false, false, false, false, false, false, false, false] rfl rfl (by kernel_rfl) (fun _ _ _ h => h) (Or.inr ⟨by rfl, rfl⟩) ?_ ?_
                rotate_left
                · simp only [Act.put, List.setIfInBounds_toArray, List.set_cons_zero, List.set_cons_succ, i64_w, i32_w]
                  rfl
                try simp only [c704b0, Bool.not_true, Bool.not_false]
                refine pure_ (i := 7) (N := some 35) (v := undef) (a' := ?_) #[true, true, true, true, true, true, true, true, false, false, false, false, false, false, false, false, false, false, false, false, false, false, false, false, false] rfl rfl (by kernel_rfl) (fun _ _ _ h => h) (Or.inr ⟨by rfl, rfl⟩) ?_ ?_
                rotate_left
                · simp only [Act.put, List.setIfInBounds_toArray, List.set_cons_zero, List.set_cons_succ, i64_w, i32_w]
                  rfl
                refine pure_ (i := 8) (N := some 36) (v := ?_) (a' := ?_) #[true, true, true, true, true, true, true, true, true, false, false, false, false, false, false, false, false, false, false, false, false, false, false, false, false] rfl rfl (by kernel_rfl) (fun _ _ _ h => h) (Or.inl ⟨by rfl, ?_⟩) ?_ ?_
                rotate_left
                · intro w'
                  go_simp
                  with_reducible rfl
                rotate_left
                · simp only [Act.put, List.setIfInBounds_toArray, List.set_cons_zero, List.set_cons_succ, i64_w, i32_w]
                  rfl
                refine pure_ (i := 9) (N := some 37) (v := ?_) (a' := ?_) #[true, true, true, true, true, true, true, true, true, true, false, false, false, false, false, false, false, false, false, false, false, false, false, false, false] rfl rfl (by kernel_rfl) (fun _ _ _ h => h) (Or.inl ⟨by rfl, ?_⟩) ?_ ?_
                rotate_left
                · intro w'
                  go_simp
                  with_reducible rfl
                rotate_left
                · simp only [Act.put, List.setIfInBounds_toArray, List.set_cons_zero, List.set_cons_succ, i64_w, i32_w]
                  rfl
                refine pure_ (i := 10) (N := some 38) (v := undef) (a' := ?_) #[true, true, true, true, true, true, true, true, true, true, true, false, false, false, false, false, false, false, false, false, false, false, false, false, false] rfl rfl (by kernel_rfl) (fun _ _ _ h => h) (Or.inr ⟨by rfl, rfl⟩) ?_ ?_
                rotate_left
                · simp only [Act.put, List.setIfInBounds_toArray, List.set_cons_zero, List.set_cons_succ, i64_w, i32_w]
                  rfl
                refine pure_ (i := 11) (N := some 39) (v := undef) (a' := ?_) #[true, true, true, true, true, true, true, true, true, true, true, true, false, false, false, false, false, false, false, false, false, false, false, false, false] rfl rfl (by kernel_rfl) (fun _ _ _ h => h) (Or.inr ⟨by rfl, rfl⟩) ?_ ?_
                rotate_left
                · simp only [Act.put, List.setIfInBounds_toArray, List.set_cons_zero, List.set_cons_succ, i64_w, i32_w]
                  rfl
                refine pure_ (i := 12) (N := some 40) (v := undef) (a' := ?_) #[true, true, true, true, true, true, true, true, true, true, true, true, true, false, false, false, false, false, false, false, false, false, false, false, false] rfl rfl (by kernel_rfl) (fun _ _ _ h => h) (Or.inr ⟨by rfl, rfl⟩) ?_ ?_
                rotate_left
                · simp only [Act.put, List.setIfInBounds_toArray, List.set_cons_zero, List.set_cons_succ, i64_w, i32_w]
                  rfl
                refine pure_ (i := 13) (N := some 41) (v := ?_) (a' := ?_) #[true, true, true, true, true, true, true, true, true, true, true, true, true, true, false, false, false, false, false, false, false, false, false, false, false] rfl rfl (by kernel_rfl) (fun _ _ _ h => h) (Or.inl ⟨by rfl, ?_⟩) ?_ ?_
                rotate_left
                · intro w'
                  go_simp
                  with_reducible rfl
                rotate_left
                · simp only [Act.put, List.setIfInBounds_toArray, List.set_cons_zero, List.set_cons_succ, i64_w, i32_w]
                  rfl
                refine pure_ (i := 14) (N := some 42) (v := ?_) (a' := ?_) #[true, true, true, true, true, true, true, true, true, true, true, true, true, true, true, false, false, false, false, false, false, false, false, false, false] rfl rfl (by kernel_rfl) (fun _ _ _ h => h) (Or.inl ⟨by rfl, ?_⟩) ?_ ?_
                rotate_left
                · intro w'
                  go_simp
                  with_reducible rfl
                rotate_left
                · simp only [Act.put, List.setIfInBounds_toArray, List.set_cons_zero, List.set_cons_succ, i64_w, i32_w]
                  rfl
                refine pure_ (i := 15) (N := some 43) (v := undef) (a' := ?_) #[true, true, true, true, true, true, true, true, true, true, true, true, true, true, true, true, false, false, false, false, false, false, false, false, false] rfl rfl (by kernel_rfl) (fun _ _ _ h => h) (Or.inr ⟨by rfl, rfl⟩) ?_ ?_
                rotate_left
                · simp only [Act.put, List.setIfInBounds_toArray, List.set_cons_zero, List.set_cons_succ, i64_w, i32_w]
                  rfl
                refine pure_ (i := 16) (N := some 44) (v := undef) (a' := ?_) #[true, true, true, true, true, true, true, true, true, true, true, true, true, true, true, true, true, false, false, false, false, false, false, false, false] rfl rfl (by kernel_rfl) (fun _ _ _ h => h) (Or.inr ⟨by rfl, rfl⟩) ?_ ?_
                rotate_left
                · simp only [Act.put, List.setIfInBounds_toArray, List.set_cons_zero, List.set_cons_succ, i64_w, i32_w]
                  rfl
                refine pure_ (i := 17) (N := some 45) (v := undef) (a' := ?_) #[true, true, true, true, true, true, true, true, true, true, true, true, true, true, true, true, true, true, false, false, false, false, false, false, false] rfl rfl (by kernel_rfl) (fun _ _ _ h => h) (Or.inr ⟨by rfl, rfl⟩) ?_ ?_
                rotate_left
                · simp only [Act.put, List.setIfInBounds_toArray, List.set_cons_zero, List.set_cons_succ, i64_w, i32_w]
                  rfl
                refine pure_ (i := 18) (N := some 46) (v := undef) (a' := ?_) #[true, true, true, true, true, true, true, true, true, true, true, true, true, true, true, true, true, true, true, false, false, false, false, false, false] rfl rfl (by kernel_rfl) (fun _ _ _ h => h) (Or.inr ⟨by rfl, rfl⟩) ?_ ?_
                rotate_left
                · simp only [Act.put, List.setIfInBounds_toArray, List.set_cons_zero, List.set_cons_succ, i64_w, i32_w]
                  rfl
                refine pure_ (i := 19) (N := some 47) (v := undef) (a' := ?_) #[true, true, true, true, true, true, true, true, true, true, true, true, true, true, true, true, true, true, true, true, false, false, false, false, false] rfl rfl (by kernel_rfl) (fun _ _ _ h => h) (Or.inr ⟨by rfl, rfl⟩) ?_ ?_
                rotate_left
                · simp only [Act.put, List.setIfInBounds_toArray, List.set_cons_zero, List.set_cons_succ, i64_w, i32_w]
                  rfl
                refine pure_ (i := 20) (N := some 48) (v := undef) (a' := ?_) #[true, true, true, true, true, true, true, true, true, true, true, true, true, true, true, true, true, true, true, true, true, false, false, false, false] rfl rfl (by kernel_rfl) (fun _ _ _ h => h) (Or.inr ⟨by rfl, rfl⟩) ?_ ?_
                rotate_left
                · simp only [Act.put, List.setIfInBounds_toArray, List.set_cons_zero, List.set_cons_succ, i64_w, i32_w]
                  rfl
                refine pure_ (i := 21) (N := some 49) (v := undef) (a' := ?_) #[true, true, true, true, true, true, true, true, true, true, true, true, true, true, true, true, true, true, true, true, true, true, false, false, false] rfl rfl (by kernel_rfl) (fun _ _ _ h => h) (Or.inr ⟨by rfl, rfl⟩) ?_ ?_
                rotate_left
                · simp only [Act.put, List.setIfInBounds_toArray, List.set_cons_zero, List.set_cons_succ, i64_w, i32_w]
                  rfl
                refine pure_ (i := 22) (N := some 50) (v := undef) (a' := ?_) #[true, true, true, true, true, true, true, true, true, true, true, true, true, true, true, true, true, true, true, true, true, true, true, false, false] rfl rfl (by kernel_rfl) (fun _ _ _ h => h) (Or.inr ⟨by rfl, rfl⟩) ?_ ?_
                rotate_left
                · simp only [Act.put, List.setIfInBounds_toArray, List.set_cons_zero, List.set_cons_succ, i64_w, i32_w]
                  rfl
                refine pure_ (i := 23) (N := some 51) (v := ?_) (a' := ?_) #[true, true, true, true, true, true, true, true, true, true, true, true, true, true, true, true, true, true, true, true, true, true, true, true, false] rfl rfl (by kernel_rfl) (fun _ _ _ h => h) (Or.inl ⟨by rfl, ?_⟩) ?_ ?_
                rotate_left
                · intro w'
                  go_simp
                  with_reducible rfl
                rotate_left
                · simp only [Act.put, List.setIfInBounds_toArray, List.set_cons_zero, List.set_cons_succ, i64_w, i32_w]
                  rfl
                refine pure_ (i := 24) (N := some 2) (v := ?_) (a' := ?_) #[true, true, true, true, true, true, true, true, true, true, true, true, true, true, true, true, true, true, true, true, true, true, true, true, true] rfl rfl (by kernel_rfl) (fun _ _ _ h => h) (Or.inl ⟨by rfl, ?_⟩) ?_ ?_
                rotate_left
                · intro w'
                  go_simp
                  with_reducible rfl
                rotate_left
                · simp only [Act.put, List.setIfInBounds_toArray, List.set_cons_zero, List.set_cons_succ, i64_w, i32_w]
                  rfl
                refine done_ (by kernel_rfl) ?_
                replace HS : Aside0 (Sep (fps []) w [] w700) := ⟨HS.out.sub (.cons _ .slnil)⟩
                go_wp2_with fail
                go_ret
                rw [← some_eq H]
                exact ⟨(by first | rfl | (simp [IntKind.wrap_u32]; done)), HS.out⟩
            · replace H := if_no c695 H
              have c695b0 : (a613 == 0) = false := beq_eq_false_iff_ne.mpr c695
              have c695b1 : (a613 != 0) = true := bne_iff_ne.mpr c695
              clear c695
              by_cases c708 : a613 = 3
              · replace H := if_yes c708 H
                have c708b0 : (a613 == 3) = true := beq_iff_eq.mpr c708
                have c708b1 : (a613 != 3) = false := bne_eq_false_iff_eq.mpr c708
                clear c708
                have hc690 : w681.cell? ⟨g620, 0, none⟩ = some (.int .i64 a613) := blk_cellv (HS.out.at0) 0 rfl
                go_wp2_with fail
                clear hc690
                refine start_ (n := 25) (S := (fun w' => w'.cell? ⟨g620, 0, none⟩ = some (.int .i64 a613) ∧ w'.cell? ⟨g620, 1, none⟩ = some (.int .i64 a614) ∧ w'.cell? ⟨g620, 2, none⟩ = some (.int .i64 a615) ∧ w'.cell? ⟨g620, 3, none⟩ = some (.int .i64 a616) ∧ w'.cell? ⟨g620, 4, none⟩ = some (.int .i64 a617) ∧ w'.cell? ⟨g620, 5, none⟩ = some (.int .i64 a618) ∧ w'.cell? ⟨g620, 6, none⟩ = some (.int .i64 a619) ∧ w'.cell? ⟨0, 0, none⟩ = some (.int .i64 0) ∧ w'.cell? ⟨0, 1, none⟩ = some (.int .i64 0) ∧ w'.cell? ⟨0, 2, none⟩ = some (.int .i64 0) ∧ w'.cell? ⟨0, 3, none⟩ = some (.int .i64 0) ∧ w'.cell? ⟨0, 4, none⟩ = some (.int .i64 0))) (ds := []) #[false, false, false, false, false, false, false, false, false, false, false, false, false, false, false, false, false, false, false, false, false, false, false, false, false] (by kernel_rfl) rfl rfl (⟨blk_cellv ((HS.out.drew).at0) 0 rfl, blk_cellv ((HS.out.drew).at0) 1 rfl, blk_cellv ((HS.out.drew).at0) 2 rfl, blk_cellv ((HS.out.drew).at0) 3 rfl, blk_cellv ((HS.out.drew).at0) 4 rfl, blk_cellv ((HS.out.drew).at0) 5 rfl, blk_cellv ((HS.out.drew).at0) 6 rfl, Gl.cell HGl0.out (HS.out.drew).fr 0 rfl, Gl.cell HGl0.out (HS.out.drew).fr 1 rfl, Gl.cell HGl0.out (HS.out.drew).fr 2 rfl, Gl.cell HGl0.out (HS.out.drew).fr 3 rfl, Gl.cell HGl0.out (HS.out.drew).fr 4 rfl⟩) (fun hHeld => ?_)
                have HS_ := Aside0.mk HS.out.drew
                clear HS
                generalize World.drew _ = w710 at HS_ hHeld ⊢
                have HS := HS_
                clear HS_
                refine take_ (i := 0) (N := some 28) (v := ?_) (a' := ?_) #[true, false, false, false, false, false, false, false, false, false, false, false, false, false, false, false, false, false, false, false, false, false, false, false, false] rfl rfl (by kernel_rfl) (fun _ _ _ h => h) (Or.inl ⟨by rfl, ?_⟩) hHeld ?_ ?_
                rotate_left
                · rintro w' hS'
                  obtain ⟨s0, s1, s2, s3, s4, s5, s6, s7, s8, s9, s10, s11⟩ := hS'
                  go_simp
                  with_reducible rfl
                rotate_left
                · simp only [Act.put, List.setIfInBounds_toArray, List.set_cons_zero, List.set_cons_succ, i64_w, i32_w]
                  rfl
                refine take_ (i := 2) (N := some 30) (v := ?_) (a' := ?_) #[true, false, true, false, false, false, false, false, false, false, false, false, false, false, false, false, false, false, false, false, false, false, false, false, false] rfl rfl (by kernel_rfl) (fun _ _ _ h => h) (Or.inl ⟨by rfl, ?_⟩) hHeld ?_ ?_
                rotate_left
                · rintro w' hS'
                  obtain ⟨s0, s1, s2, s3, s4, s5, s6, s7, s8, s9, s10, s11⟩ := hS'
                  go_simp
                  with_reducible rfl
                rotate_left
                · simp only [Act.put, List.setIfInBounds_toArray, List.set_cons_zero, List.set_cons_succ, i64_w, i32_w]
                  rfl
                refine one_ (i := 1) (N := some 29) #[true, true, true, false, false, false, false, false, false, false, false, false, false, false, false, false, false, false, false, false, false, false, false, false, false] rfl rfl (by kernel_rfl) (by decide) (fun K hK => ?_)
                obtain ⟨t698, HA711, H⟩ := bind_some H
                refine goes_ Tryd.func23 (by kernel_rfl) rfl #[.agg #[.int .i64 a613, .int .i64 a614, .int .i64 a615, .int .i64 a616, .int .i64 a617, .int .i64 a618, .int .i64 a619]] (by rfl) rfl rfl (by (try simp only [List.map_toArray, List.map_cons, List.map_nil]); first | done | rfl) ?_
                refine (tag_marks.calls a613 a614 a615 a616 a617 a618 a619 t698 _ ⟨HGl0.out.pass (l := []) HS.out⟩ ⟨Sep.start _⟩ HA711).mono ?_
                rintro e_ w712 ⟨rfl, hS⟩
                replace HS : Aside0 (Sep (fps []) w [b5 g620 a613 a614 a615 a616 a617 a618 a619] w712) := ⟨HS.out.call hS⟩
                clear hS
                refine ⟨_, rfl, ?_⟩
                refine hK.out _ _ (⟨blk_cellv (HS.out.at0) 0 rfl, blk_cellv (HS.out.at0) 1 rfl, blk_cellv (HS.out.at0) 2 rfl, blk_cellv (HS.out.at0) 3 rfl, blk_cellv (HS.out.at0) 4 rfl, blk_cellv (HS.out.at0) 5 rfl, blk_cellv (HS.out.at0) 6 rfl, Gl.cell HGl0.out HS.out.fr 0 rfl, Gl.cell HGl0.out HS.out.fr 1 rfl, Gl.cell HGl0.out HS.out.fr 2 rfl, Gl.cell HGl0.out HS.out.fr 3 rfl, Gl.cell HGl0.out HS.out.fr 4 rfl⟩) (fun hHeld => ?_)
                clear hK K
                refine norm_ (a' := ?_) ?_ ?_
                rotate_left
                · show Act.put _ (some 29) _ = _
                  simp only [Act.put, List.setIfInBounds_toArray, List.set_cons_zero, List.set_cons_succ, i64_w, i32_w]
                  rfl
                obtain ⟨b702, HA714, H⟩ := bind_some H
                have eb713 : ∀ w, (Op.equalIn 10000 51 (.agg #[.int .i64 t698.1, .int .i64 t698.2.1, .int .i64 t698.2.2.1, .int .i64 t698.2.2.2.1, .int .i64 t698.2.2.2.2]) (.agg #[.int .i64 0, .int .i64 0, .int .i64 0, .int .i64 0, .int .i64 0])).run Tryd.prog w = .ok b702 w := some_eq HA714 ▸ run_eq_ints 9998 51 3 5 .i64 [t698.1, t698.2.1, t698.2.2.1, t698.2.2.2.1, t698.2.2.2.2] [0, 0, 0, 0, 0] Tryd.underlying51 (by kernel_rfl) (by kernel_rfl) Tryd.underlying3 (fun _ => by kernel_rfl) rfl rfl
                refine pure_ (i := 3) (N := some 31) (v := ?_) (a' := ?_) #[true, true, true, true, false, false, false, false, false, false, false, false, false, false, false, false, false, false, false, false, false, false, false, false, false] rfl rfl (by kernel_rfl) (fun _ _ _ h => h) (Or.inl ⟨by rfl, ?_⟩) ?_ ?_
                rotate_left
                · intro w'
                  go_simp
                  with_reducible rfl
                rotate_left
                · simp only [Act.put, List.setIfInBounds_toArray, List.set_cons_zero, List.set_cons_succ, i64_w, i32_w]
                  rfl
                refine pure_ (i := 4) (N := some 32) (v := ?_) (a' := ?_) #[true, true, true, true, true, false, false, false, false, false, false, false, false, false, false, false, false, false, false, false, false, false, false, false, false] rfl rfl (by kernel_rfl) (fun _ _ _ h => h) (Or.inl ⟨by rfl, ?_⟩) ?_ ?_
                rotate_left
                · intro w'
                  go_simp
                  with_reducible rfl
                rotate_left
                · simp only [Act.put, List.setIfInBounds_toArray, List.set_cons_zero, List.set_cons_succ, i64_w, i32_w]
                  rfl
                by_cases c715 : b702 = true
                · replace H := if_yes c715 H
                  have c715b0 : b702 = true := c715
                  have c715b1 : (!b702) = false := by rw [c715b0]; rfl
                  clear c715
                  try simp only [c715b0, Bool.not_true, Bool.not_false]
                  refine pure_ (i := 5) (N := some 33) (v := ?_) (a' := ?_) #[true, true, true, true, true, true, false, false, false, false, false, false, false, false, false, false, false, false, false, false, false, false, false, false, false] rfl rfl (by kernel_rfl) (fun _ _ _ h => h) (Or.inl ⟨by rfl, ?_⟩) ?_ ?_
                  rotate_left
                  · intro w'
                    go_simp
                    with_reducible rfl
                  rotate_left
                  · simp only [Act.put, List.setIfInBounds_toArray, List.set_cons_zero, List.set_cons_succ, i64_w, i32_w]
                    rfl
                  try simp only [c715b0, Bool.not_true, Bool.not_false]
                  refine take_ (i := 6) (N := some 34) (v := ?_) (a' := ?_) #[true, true, true, true, true, true, true, false, false, false, false, false, false, false, false, false, false, false, false, false, false, false, false, false, false] rfl rfl (by kernel_rfl) (fun _ _ _ h => h) (Or.inl ⟨by rfl, ?_⟩) hHeld ?_ ?_
                  rotate_left
                  · rintro w' hS'
                    obtain ⟨s0, s1, s2, s3, s4, s5, s6, s7, s8, s9, s10, s11⟩ := hS'
                    go_simp
                    with_reducible rfl
                  rotate_left
                  · simp only [Act.put, List.setIfInBounds_toArray, List.set_cons_zero, List.set_cons_succ, i64_w, i32_w]
                    rfl
                  try simp only [c715b0, Bool.not_true, Bool.not_false]
                  refine pure_ (i := 7) (N := some 35) (v := ?_) (a' := ?_) #[true, true, true, true, true, true, true, true, false, false, false, false, false, false, false, false, false, false, false, false, false, false, false, false, false] rfl rfl (by kernel_rfl) (fun _ _ _ h => h) (Or.inl ⟨by rfl, ?_⟩) ?_ ?_
                  rotate_left
                  · intro w'
                    go_simp
                    with_reducible rfl
                  rotate_left
                  · simp only [Act.put, List.setIfInBounds_toArray, List.set_cons_zero, List.set_cons_succ, i64_w, i32_w]
                    rfl
                  refine pure_ (i := 8) (N := some 36) (v := ?_) (a' := ?_) #[true, true, true, true, true, true, true, true, true, false, false, false, false, false, false, false, false, false, false, false, false, false, false, false, false] rfl rfl (by kernel_rfl) (fun _ _ _ h => h) (Or.inl ⟨by rfl, ?_⟩) ?_ ?_
                  rotate_left
                  · intro w'
                    go_simp
                    with_reducible rfl
                  rotate_left
                  · simp only [Act.put, List.setIfInBounds_toArray, List.set_cons_zero, List.set_cons_succ, i64_w, i32_w]
                    rfl
                  refine pure_ (i := 9) (N := some 37) (v := ?_) (a' := ?_) #[true, true, true, true, true, true, true, true, true, true, false, false, false, false, false, false, false, false, false, false, false, false, false, false, false] rfl rfl (by kernel_rfl) (fun _ _ _ h => h) (Or.inl ⟨by rfl, ?_⟩) ?_ ?_
                  rotate_left
                  · intro w'
                    go_simp
                    with_reducible rfl
                  rotate_left
                  · simp only [Act.put, List.setIfInBounds_toArray, List.set_cons_zero, List.set_cons_succ, i64_w, i32_w]
                    rfl
                  by_cases c716 : a619 ≥ 0
                  · replace H := if_yes c716 H
                    have c716b0 : decide (0 ≤ a619) = true := decide_eq_true c716
                    clear c716
                    try simp only [c716b0, Bool.not_true, Bool.not_false]
                    refine pure_ (i := 10) (N := some 38) (v := ?_) (a' := ?_) #[true, true, true, true, true, true, true, true, true, true, true, false, false, false, false, false, false, false, false, false, false, false, false, false, false] rfl rfl (by kernel_rfl) (fun _ _ _ h => h) (Or.inl ⟨by rfl, ?_⟩) ?_ ?_
                    rotate_left
                    · intro w'
                      go_simp
                      with_reducible rfl
                    rotate_left
                    · simp only [Act.put, List.setIfInBounds_toArray, List.set_cons_zero, List.set_cons_succ, i64_w, i32_w]
                      rfl
                    try simp only [c716b0, Bool.not_true, Bool.not_false]
                    refine take_ (i := 11) (N := some 39) (v := ?_) (a' := ?_) #[true, true, true, true, true, true, true, true, true, true, true, true, false, false, false, false, false, false, false, false, false, false, false, false, false] rfl rfl (by kernel_rfl) (fun _ _ _ h => h) (Or.inl ⟨by rfl, ?_⟩) hHeld ?_ ?_
                    rotate_left
                    · rintro w' hS'
                      obtain ⟨s0, s1, s2, s3, s4, s5, s6, s7, s8, s9, s10, s11⟩ := hS'
                      go_simp
                      with_reducible rfl
                    rotate_left
                    · simp only [Act.put, List.setIfInBounds_toArray, List.set_cons_zero, List.set_cons_succ, i64_w, i32_w]
                      rfl
                    try simp only [c716b0, Bool.not_true, Bool.not_false]
                    refine pure_ (i := 12) (N := some 40) (v := ?_) (a' := ?_) #[true, true, true, true, true, true, true, true, true, true, true, true, true, false, false, false, false, false, false, false, false, false, false, false, false] rfl rfl (by kernel_rfl) (fun _ _ _ h => h) (Or.inl ⟨by rfl, ?_⟩) ?_ ?_
                    rotate_left
                    · intro w'
                      go_simp
                      with_reducible rfl
                    rotate_left
                    · simp only [Act.put, List.setIfInBounds_toArray, List.set_cons_zero, List.set_cons_succ, i64_w, i32_w]
                      rfl
                    refine pure_ (i := 13) (N := some 41) (v := ?_) (a' := ?_) #[true, true, true, true, true, true, true, true, true, true, true, true, true, true, false, false, false, false, false, false, false, false, false, false, false] rfl rfl (by kernel_rfl) (fun _ _ _ h => h) (Or.inl ⟨by rfl, ?_⟩) ?_ ?_
                    rotate_left
                    · intro w'
                      go_simp
                      with_reducible rfl
                    rotate_left
                    · simp only [Act.put, List.setIfInBounds_toArray, List.set_cons_zero, List.set_cons_succ, i64_w, i32_w]
                      rfl
                    refine pure_ (i := 14) (N := some 42) (v := ?_) (a' := ?_) #[true, true, true, true, true, true, true, true, true, true, true, true, true, true, true, false, false, false, false, false, false, false, false, false, false] rfl rfl (by kernel_rfl) (fun _ _ _ h => h) (Or.inl ⟨by rfl, ?_⟩) ?_ ?_
                    rotate_left
                    · intro w'
                      go_simp
                      with_reducible rfl
                    rotate_left
                    · simp only [Act.put, List.setIfInBounds_toArray, List.set_cons_zero, List.set_cons_succ, i64_w, i32_w]
                      rfl
                    by_cases c717 : a619 < 1048576
                    · replace H := if_yes c717 H
                      have c717b0 : decide (a619 < 1048576) = true := decide_eq_true c717
                      clear c717
                      try simp only [c717b0, Bool.not_true, Bool.not_false]
                      refine pure_ (i := 15) (N := some 43) (v := ?_) (a' := ?_) #[true, true, true, true, true, true, true, true, true, true, true, true, true, true, true, true, false, false, false, false, false, false, false, false, false] rfl rfl (by kernel_rfl) (fun _ _ _ h => h) (Or.inl ⟨by rfl, ?_⟩) ?_ ?_
                      rotate_left
                      · intro w'
                        go_simp
                        with_reducible rfl
                      rotate_left
                      · simp only [Act.put, List.setIfInBounds_toArray, List.set_cons_zero, List.set_cons_succ, i64_w, i32_w]
                        rfl
                      try simp only [c717b0, Bool.not_true, Bool.not_false]
                      refine take_ (i := 16) (N := some 44) (v := ?_) (a' := ?_) #[true, true, true, true, true, true, true, true, true, true, true, true, true, true, true, true, true, false, false, false, false, false, false, false, false] rfl rfl (by kernel_rfl) (fun _ _ _ h => h) (Or.inl ⟨by rfl, ?_⟩) hHeld ?_ ?_
                      rotate_left
                      · rintro w' hS'
                        obtain ⟨s0, s1, s2, s3, s4, s5, s6, s7, s8, s9, s10, s11⟩ := hS'
                        go_simp
                        with_reducible rfl
                      rotate_left
                      · simp only [Act.put, List.setIfInBounds_toArray, List.set_cons_zero, List.set_cons_succ, i64_w, i32_w]
                        rfl
                      try simp only [c717b0, Bool.not_true, Bool.not_false]
                      refine pure_ (i := 17) (N := some 45) (v := ?_) (a' := ?_) #[true, true, true, true, true, true, true, true, true, true, true, true, true, true, true, true, true, true, false, false, false, false, false, false, false] rfl rfl (by kernel_rfl) (fun _ _ _ h => h) (Or.inl ⟨by rfl, ?_⟩) ?_ ?_
                      rotate_left
                      · intro w'
                        go_simp
                        with_reducible rfl
                      rotate_left
                      · simp only [Act.put, List.setIfInBounds_toArray, List.set_cons_zero, List.set_cons_succ, i64_w, i32_w]
                        rfl
                      try simp only [c717b0, Bool.not_true, Bool.not_false]
                      refine pure_ (i := 18) (N := some 46) (v := ?_) (a' := ?_) #[true, true, true, true, true, true, true, true, true, true, true, true, true, true, true, true, true, true, true, false, false, false, false, false, false] rfl rfl (by kernel_rfl) (fun _ _ _ h => h) (Or.inl ⟨by rfl, ?_⟩) ?_ ?_
                      rotate_left
                      · intro w'
                        go_simp
                        with_reducible rfl
                      rotate_left
                      · simp only [Act.put, List.setIfInBounds_toArray, List.set_cons_zero, List.set_cons_succ, i64_w, i32_w]
                        rfl
                      try simp only [c708b0, c708b1, Bool.not_true, Bool.not_false]
                      refine pure_ (i := 19) (N := some 47) (v := undef) (a' := ?_) #[true, true, true, true, true, true, true, true, true, true, true, true, true, true, true, true, true, true, true, true, false, false, false, false, false] rfl rfl (by kernel_rfl) (fun _ _ _ h => h) (Or.inr ⟨by rfl, rfl⟩) ?_ ?_
                      rotate_left
                      · simp only [Act.put, List.setIfInBounds_toArray, List.set_cons_zero, List.set_cons_succ, i64_w, i32_w]
                        rfl
                      try simp only [c708b0, c708b1, Bool.not_true, Bool.not_false]
                      refine pure_ (i := 20) (N := some 48) (v := undef) (a' := ?_) #[true, true, true, true, true, true, true, true, true, true, true, true, true, true, true, true, true, true, true, true, true, false, false, false, false] rfl rfl (by kernel_rfl) (fun _ _ _ h => h) (Or.inr ⟨by rfl, rfl⟩) ?_ ?_
                      rotate_left
                      · simp only [Act.put, List.setIfInBounds_toArray, List.set_cons_zero, List.set_cons_succ, i64_w, i32_w]
                        rfl
                      try simp only [c708b0, c708b1, Bool.not_true, Bool.not_false]
                      refine pure_ (i := 21) (N := some 49) (v := undef) (a' := ?_) #[true, true, true, true, true, true, true, true, true, true, true, true, true, true, true, true, true, true, true, true, true, true, false, false, false] rfl rfl (by kernel_rfl) (fun _ _ _ h => h) (Or.inr ⟨by rfl, rfl⟩) ?_ ?_
                      rotate_left
                      · simp only [Act.put, List.setIfInBounds_toArray, List.set_cons_zero, List.set_cons_succ, i64_w, i32_w]
                        rfl
                      try simp only [c717b0, Bool.not_true, Bool.not_false]
                      refine pure_ (i := 22) (N := some 50) (v := ?_) (a' := ?_) #[true, true, true, true, true, true, true, true, true, true, true, true, true, true, true, true, true, true, true, true, true, true, true, false, false] rfl rfl (by kernel_rfl) (fun _ _ _ h => h) (Or.inl ⟨by rfl, ?_⟩) ?_ ?_
                      rotate_left
                      · intro w'
                        go_simp
                        with_reducible rfl
                      rotate_left
                      · simp only [Act.put, List.setIfInBounds_toArray, List.set_cons_zero, List.set_cons_succ, i64_w, i32_w]
                        rfl
                      refine pure_ (i := 23) (N := some 51) (v := ?_) (a' := ?_) #[true, true, true, true, true, true, true, true, true, true, true, true, true, true, true, true, true, true, true, true, true, true, true, true, false] rfl rfl (by kernel_rfl) (fun _ _ _ h => h) (Or.inl ⟨by rfl, ?_⟩) ?_ ?_
                      rotate_left
                      · intro w'
                        go_simp
                        with_reducible rfl
                      rotate_left
                      · simp only [Act.put, List.setIfInBounds_toArray, List.set_cons_zero, List.set_cons_succ, i64_w, i32_w]
                        rfl
                      refine pure_ (i := 24) (N := some 2) (v := ?_) (a' := ?_) #[true, true, true, true, true, true, true, true, true, true, true, true, true, true, true, true, true, true, true, true, true, true, true, true, true] rfl rfl (by kernel_rfl) (fun _ _ _ h => h) (Or.inl ⟨by rfl, ?_⟩) ?_ ?_
                      rotate_left
                      · intro w'
                        go_simp
                        with_reducible rfl
                      rotate_left
                      · simp only [Act.put, List.setIfInBounds_toArray, List.set_cons_zero, List.set_cons_succ, i64_w, i32_w]
                        rfl
                      refine done_ (by kernel_rfl) ?_
                      replace HS : Aside0 (Sep (fps []) w [] w712) := ⟨HS.out.sub (.cons _ .slnil)⟩
                      go_wp2_with fail
                      go_ret
                      rw [← some_eq H]
                      exact ⟨(by first | rfl | (simp [IntKind.wrap_u32]; done)), HS.out⟩
                    · replace H := if_no c717 H
                      have c717b0 : decide (a619 < 1048576) = false := decide_eq_false c717
                      clear c717
                      try simp only [c717b0, Bool.not_true, Bool.not_false]
                      refine pure_ (i := 15) (N := some 43) (v := undef) (a' := ?_) #[true, true, true, true, true, true, true, true, true, true, true, true, true, true, true, true, false, false, false, false, false, false, false, false, false] rfl rfl (by kernel_rfl) (fun _ _ _ h => h) (Or.inr ⟨by rfl, rfl⟩) ?_ ?_
                      rotate_left
                      · simp only [Act.put, List.setIfInBounds_toArray, List.set_cons_zero, List.set_cons_succ, i64_w, i32_w]
                        rfl
                      try simp only [c717b0, Bool.not_true, Bool.not_false]
                      refine pure_ (i := 16) (N := some 44) (v := undef) (a' := ?_) #[true, true, true, true, true, true, true, true, true, true, true, true, true, true, true, true, true, false, false, false, false, false, false, false, false] rfl rfl (by kernel_rfl) (fun _ _ _ h => h) (Or.inr ⟨by rfl, rfl⟩) ?_ ?_
                      rotate_left
                      · simp only [Act.put, List.setIfInBounds_toArray, List.set_cons_zero, List.set_cons_succ, i64_w, i32_w]
                        rfl
                      try simp only [c717b0, Bool.not_true, Bool.not_false]
                      refine pure_ (i := 17) (N := some 45) (v := undef) (a' := ?_) #[true, true, true, true, true, true, true, true, true, true, true, true, true, true, true, true, true, true, false, false, false, false, false, false, false] rfl rfl (by kernel_rfl) (fun _ _ _ h => h) (Or.inr ⟨by rfl, rfl⟩) ?_ ?_
                      rotate_left
                      · simp only [Act.put, List.setIfInBounds_toArray, List.set_cons_zero, List.set_cons_succ, i64_w, i32_w]
                        rfl
                      try simp only [c717b0, Bool.not_true, Bool.not_false]
                      refine pure_ (i := 18) (N := some 46) (v := undef) (a' := ?_) #[true, true, true, true, true, true, true, true, true, true, true, true, true, true, true, true, true, true, true, false, false, false, false, false, false] rfl rfl (by kernel_rfl) (fun _ _ _ h => h) (Or.inr ⟨by rfl, rfl⟩) ?_ ?_
                      rotate_left
                      · simp only [Act.put, List.setIfInBounds_toArray, List.set_cons_zero, List.set_cons_succ, i64_w, i32_w]
                        rfl
                      refine pure_ (i := 19) (N := some 47) (v := undef) (a' := ?_) #[true, true, true, true, true, true, true, true, true, true, true, true, true, true, true, true, true, true, true, true, false, false, false, false, false] rfl rfl (by kernel_rfl) (fun _ _ _ h => h) (Or.inr ⟨by rfl, rfl⟩) ?_ ?_
                      rotate_left
                      · simp only [Act.put, List.setIfInBounds_toArray, List.set_cons_zero, List.set_cons_succ, i64_w, i32_w]
                        rfl
                      refine pure_ (i := 20) (N := some 48) (v := undef) (a' := ?_) #[true, true, true, true, true, true, true, true, true, true, true, true, true, true, true, true, true, true, true, true, true, false, false, false, false] rfl rfl (by kernel_rfl) (fun _ _ _ h => h) (Or.inr ⟨by rfl, rfl⟩) ?_ ?_
                      rotate_left
                      · simp only [Act.put, List.setIfInBounds_toArray, List.set_cons_zero, List.set_cons_succ, i64_w, i32_w]
                        rfl
                      refine pure_ (i := 21) (N := some 49) (v := undef) (a' := ?_) #[true, true, true, true, true, true, true, true, true, true, true, true, true, true, true, true, true, true, true, true, true, true, false, false, false] rfl rfl (by kernel_rfl) (fun _ _ _ h => h) (Or.inr ⟨by rfl, rfl⟩) ?_ ?_
                      rotate_left
                      · simp only [Act.put, List.setIfInBounds_toArray, List.set_cons_zero, List.set_cons_succ, i64_w, i32_w]
                        rfl
                      try simp only [c717b0, Bool.not_true, Bool.not_false]
                      refine pure_ (i := 22) (N := some 50) (v := undef) (a' := ?_) #[true, true, true, true, true, true, true, true, true, true, true, true, true, true, true, true, true, true, true, true, true, true, true, false, false] rfl rfl (by kernel_rfl) (fun _ _ _ h => h) (Or.inr ⟨by rfl, rfl⟩) ?_ ?_
                      rotate_left
                      · simp only [Act.put, List.setIfInBounds_toArray, List.set_cons_zero, List.set_cons_succ, i64_w, i32_w]
                        rfl
                      refine pure_ (i := 23) (N := some 51) (v := ?_) (a' := ?_) #[true, true, true, true, true, true, true, true, true, true, true, true, true, true, true, true, true, true, true, true, true, true, true, true, false] rfl rfl (by kernel_rfl) (fun _ _ _ h => h) (Or.inl ⟨by rfl, ?_⟩) ?_ ?_
                      rotate_left
                      · intro w'
                        go_simp
                        with_reducible rfl
                      rotate_left
                      · simp only [Act.put, List.setIfInBounds_toArray, List.set_cons_zero, List.set_cons_succ, i64_w, i32_w]
                        rfl
                      refine pure_ (i := 24) (N := some 2) (v := ?_) (a' := ?_) #[true, true, true, true, true, true, true, true, true, true, true, true, true, true, true, true, true, true, true, true, true, true, true, true, true] rfl rfl (by kernel_rfl) (fun _ _ _ h => h) (Or.inl ⟨by rfl, ?_⟩) ?_ ?_
                      rotate_left
                      · intro w'
                        go_simp
                        with_reducible rfl
                      rotate_left
                      · simp only [Act.put, List.setIfInBounds_toArray, List.set_cons_zero, List.set_cons_succ, i64_w, i32_w]
                        rfl
                      refine done_ (by kernel_rfl) ?_
                      replace HS : Aside0 (Sep (fps []) w [] w712) := ⟨HS.out.sub (.cons _ .slnil)⟩
                      go_wp2_with fail
                      go_ret
                      rw [← some_eq H]
                      exact ⟨(by first | rfl | (simp [IntKind.wrap_u32]; done)), HS.out⟩
                  · replace H := if_no c716 H
                    have c716b0 : decide (0 ≤ a619) = false := decide_eq_false c716
                    clear c716
                    try simp only [c716b0, Bool.not_true, Bool.not_false]
                    refine pure_ (i := 10) (N := some 38) (v := undef) (a' := ?_) #[true, true, true, true, true, true, true, true, true, true, true, false, false, false, false, false, false, false, false, false, false, false, false, false, false] rfl rfl (by kernel_rfl) (fun _ _ _ h => h) (Or.inr ⟨by rfl, rfl⟩) ?_ ?_
                    rotate_left
                    · simp only [Act.put, List.setIfInBounds_toArray, List.set_cons_zero, List.set_cons_succ, i64_w, i32_w]
                      rfl
                    try simp only [c716b0, Bool.not_true, Bool.not_false]
                    refine pure_ (i := 11) (N := some 39) (v := undef) (a' := ?_) #[true, true, true, true, true, true, true, true, true, true, true, true, false, false, false, false, false, false, false, false, false, false, false, false, false] rfl rfl (by kernel_rfl) (fun _ _ _ h => h) (Or.inr ⟨by rfl, rfl⟩) ?_ ?_
                    rotate_left
                    · simp only [Act.put, List.setIfInBounds_toArray, List.set_cons_zero, List.set_cons_succ, i64_w, i32_w]
                      rfl
                    try simp only [c716b0, Bool.not_true, Bool.not_false]
                    refine pure_ (i := 12) (N := some 40) (v := undef) (a' := ?_) #[true, true, true, true, true, true, true, true, true, true, true, true, true, false, false, false, false, false, false, false, false, false, false, false, false] rfl rfl (by kernel_rfl) (fun _ _ _ h => h) (Or.inr ⟨by rfl, rfl⟩) ?_ ?_
                    rotate_left
                    · simp only [Act.put, List.setIfInBounds_toArray, List.set_cons_zero, List.set_cons_succ, i64_w, i32_w]
                      rfl
                    refine pure_ (i := 13) (N := some 41) (v := ?_) (a' := ?_) #[true, true, true, true, true, true, true, true, true, true, true, true, true, true, false, false, false, false, false, false, false, false, false, false, false] rfl rfl (by kernel_rfl) (fun _ _ _ h => h) (Or.inl ⟨by rfl, ?_⟩) ?_ ?_
                    rotate_left
                    · intro w'
                      go_simp
                      with_reducible rfl
                    rotate_left
                    · simp only [Act.put, List.setIfInBounds_toArray, List.set_cons_zero, List.set_cons_succ, i64_w, i32_w]
                      rfl
                    refine pure_ (i := 14) (N := some 42) (v := ?_) (a' := ?_) #[true, true, true, true, true, true, true, true, true, true, true, true, true, true, true, false, false, false, false, false, false, false, false, false, false] rfl rfl (by kernel_rfl) (fun _ _ _ h => h) (Or.inl ⟨by rfl, ?_⟩) ?_ ?_
                    rotate_left
                    · intro w'
                      go_simp
                      with_reducible rfl
                    rotate_left
                    · simp only [Act.put, List.setIfInBounds_toArray, List.set_cons_zero, List.set_cons_succ, i64_w, i32_w]
                      rfl
                    refine pure_ (i := 15) (N := some 43) (v := undef) (a' := ?_) #[true, true, true, true, true, true, true, true, true, true, true, true, true, true, true, true, false, false, false, false, false, false, false, false, false] rfl rfl (by kernel_rfl) (fun _ _ _ h => h) (Or.inr ⟨by rfl, rfl⟩) ?_ ?_
                    rotate_left
                    · simp only [Act.put, List.setIfInBounds_toArray, List.set_cons_zero, List.set_cons_succ, i64_w, i32_w]
                      rfl
                    refine pure_ (i := 16) (N := some 44) (v := undef) (a' := ?_) #[true, true, true, true, true, true, true, true, true, true, true, true, true, true, true, true, true, false, false, false, false, false, false, false, false] rfl rfl (by kernel_rfl) (fun _ _ _ h => h) (Or.inr ⟨by rfl, rfl⟩) ?_ ?_
                    rotate_left
                    · simp only [Act.put, List.setIfInBounds_toArray, List.set_cons_zero, List.set_cons_succ, i64_w, i32_w]
                      rfl
                    refine pure_ (i := 17) (N := some 45) (v := undef) (a' := ?_) #[true, true, true, true, true, true, true, true, true, true, true, true, true, true, true, true, true, true, false, false, false, false, false, false, false] rfl rfl (by kernel_rfl) (fun _ _ _ h => h) (Or.inr ⟨by rfl, rfl⟩) ?_ ?_
                    rotate_left
                    · simp only [Act.put, List.setIfInBounds_toArray, List.set_cons_zero, List.set_cons_succ, i64_w, i32_w]
                      rfl
                    refine pure_ (i := 18) (N := some 46) (v := undef) (a' := ?_) #[true, true, true, true, true, true, true, true, true, true, true, true, true, true, true, true, true, true, true, false, false, false, false, false, false] rfl rfl (by kernel_rfl) (fun _ _ _ h => h) (Or.inr ⟨by rfl, rfl⟩) ?_ ?_
                    rotate_left
                    · simp only [Act.put, List.setIfInBounds_toArray, List.set_cons_zero, List.set_cons_succ, i64_w, i32_w]
                      rfl
                    refine pure_ (i := 19) (N := some 47) (v := undef) (a' := ?_) #[true, true, true, true, true, true, true, true, true, true, true, true, true, true, true, true, true, true, true, true, false, false, false, false, false] rfl rfl (by kernel_rfl) (fun _ _ _ h => h) (Or.inr ⟨by rfl, rfl⟩) ?_ ?_
                    rotate_left
                    · simp only [Act.put, List.setIfInBounds_toArray, List.set_cons_zero, List.set_cons_succ, i64_w, i32_w]
                      rfl
                    refine pure_ (i := 20) (N := some 48) (v := undef) (a' := ?_) #[true, true, true, true, true, true, true, true, true, true, true, true, true, true, true, true, true, true, true, true, true, false, false, false, false] rfl rfl (by kernel_rfl) (fun _ _ _ h => h) (Or.inr ⟨by rfl, rfl⟩) ?_ ?_
                    rotate_left
                    · simp only [Act.put, List.setIfInBounds_toArray, List.set_cons_zero, List.set_cons_succ, i64_w, i32_w]
                      rfl
                    refine pure_ (i := 21) (N := some 49) (v := undef) (a' := ?_) #[true, true, true, true, true, true, true, true, true, true, true, true, true, true, true, true, true, true, true, true, true, true, false, false, false] rfl rfl (by kernel_rfl) (fun _ _ _ h => h) (Or.inr ⟨by rfl, rfl⟩) ?_ ?_
                    rotate_left
                    · simp only [Act.put, List.setIfInBounds_toArray, List.set_cons_zero, List.set_cons_succ, i64_w, i32_w]
                      rfl
                    refine pure_ (i := 22) (N := some 50) (v := undef) (a' := ?_) #[true, true, true, true, true, true, true, true, true, true, true, true, true, true, true, true, true, true, true, true, true, true, true, false, false] rfl rfl (by kernel_rfl) (fun _ _ _ h => h) (Or.inr ⟨by rfl, rfl⟩) ?_ ?_
                    rotate_left
                    · simp only [Act.put, List.setIfInBounds_toArray, List.set_cons_zero, List.set_cons_succ, i64_w, i32_w]
                      rfl
                    refine pure_ (i := 23) (N := some 51) (v := ?_) (a' := ?_) #[true, true, true, true, true, true, true, true, true, true, true, true, true, true, true, true, true, true, true, true, true, true, true, true, false] rfl rfl (by kernel_rfl) (fun _ _ _ h => h) (Or.inl ⟨by rfl, ?_⟩) ?_ ?_
                    rotate_left
                    · intro w'
                      go_simp
                      with_reducible rfl
                    rotate_left
                    · simp only [Act.put, List.setIfInBounds_toArray, List.set_cons_zero, List.set_cons_succ, i64_w, i32_w]
                      rfl
                    refine pure_ (i := 24) (N := some 2) (v := ?_) (a' := ?_) #[true, true, true, true, true, true, true, true, true, true, true, true, true, true, true, true, true, true, true, true, true, true, true, true, true] rfl rfl (by kernel_rfl) (fun _ _ _ h => h) (Or.inl ⟨by rfl, ?_⟩) ?_ ?_
                    rotate_left
                    · intro w'
                      go_simp
                      with_reducible rfl
                    rotate_left
                    · simp only [Act.put, List.setIfInBounds_toArray, List.set_cons_zero, List.set_cons_succ, i64_w, i32_w]
                      rfl
                    refine done_ (by kernel_rfl) ?_
                    replace HS : Aside0 (Sep (fps []) w [] w712) := ⟨HS.out.sub (.cons _ .slnil)⟩
                    go_wp2_with fail
                    go_ret
                    rw [← some_eq H]
                    exact ⟨(by first | rfl | (simp [IntKind.wrap_u32]; done)), HS.out⟩
                · replace H := if_no c715 H
                  have c715b0 : b702 = false := by simpa using c715
                  have c715b1 : (!b702) = true := by rw [c715b0]; rfl
                  clear c715
                  try simp only [c715b0, Bool.not_true, Bool.not_false]
                  refine pure_ (i := 5) (N := some 33) (v := undef) (a' := ?_) #[true, true, true, true, true, true, false, false, false, false, false, false, false, false, false, false, false, false, false, false, false, false, false, false, false] rfl rfl (by kernel_rfl) (fun _ _ _ h => h) (Or.inr ⟨by rfl, rfl⟩) ?_ ?_
                  rotate_left
                  · simp only [Act.put, List.setIfInBounds_toArray, List.set_cons_zero, List.set_cons_succ, i64_w, i32_w]
                    rfl
                  try simp only [c715b0, Bool.not_true, Bool.not_false]
                  refine pure_ (i := 6) (N := some 34) (v := undef) (a' := ?_) #[true, true, true, true, true, true, true, false, false, false, false, false, false, false, false, false, false, false, false, false, false, false, false, false, false] rfl rfl (by kernel_rfl) (fun _ _ _ h => h) (Or.inr ⟨by rfl, rfl⟩) ?_ ?_
                  rotate_left
                  · simp only [Act.put, List.setIfInBounds_toArray, List.set_cons_zero, List.set_cons_succ, i64_w, i32_w]
                    rfl
                  try simp only [c715b0, Bool.not_true, Bool.not_false]
                  refine pure_ (i := 7) (N := some 35) (v := undef) (a' := ?_) #[true, true, true, true, true, true, true, true, false, false, false, false, false, false, false, false, false, false, false, false, false, false, false, false, false] rfl rfl (by kernel_rfl) (fun _ _ _ h => h) (Or.inr ⟨by rfl, rfl⟩) ?_ ?_
                  rotate_left
                  · simp only [Act.put, List.setIfInBounds_toArray, List.set_cons_zero, List.set_cons_succ, i64_w, i32_w]
                    rfl
                  refine pure_ (i := 8) (N := some 36) (v := ?_) (a' := ?_) #[true, true, true, true, true, true, true, true, true, false, false, false, false, false, false, false, false, false, false, false, false, false, false, false, false] rfl rfl (by kernel_rfl) (fun _ _ _ h => h) (Or.inl ⟨by rfl, ?_⟩) ?_ ?_
                  rotate_left
                  · intro w'
                    go_simp
                    with_reducible rfl
                  rotate_left
                  · simp only [Act.put, List.setIfInBounds_toArray, List.set_cons_zero, List.set_cons_succ, i64_w, i32_w]
                    rfl
                  refine pure_ (i := 9) (N := some 37) (v := ?_) (a' := ?_) #[true, true, true, true, true, true, true, true, true, true, false, false, false, false, false, false, false, false, false, false, false, false, false, false, false] rfl rfl (by kernel_rfl) (fun _ _ _ h => h) (Or.inl ⟨by rfl, ?_⟩) ?_ ?_
                  rotate_left
                  · intro w'
                    go_simp
                    with_reducible rfl
                  rotate_left
                  · simp only [Act.put, List.setIfInBounds_toArray, List.set_cons_zero, List.set_cons_succ, i64_w, i32_w]
                    rfl
                  refine pure_ (i := 10) (N := some 38) (v := undef) (a' := ?_) #[true, true, true, true, true, true, true, true, true, true, true, false, false, false, false, false, false, false, false, false, false, false, false, false, false] rfl rfl (by kernel_rfl) (fun _ _ _ h => h) (Or.inr ⟨by rfl, rfl⟩) ?_ ?_
                  rotate_left
                  · simp only [Act.put, List.setIfInBounds_toArray, List.set_cons_zero, List.set_cons_succ, i64_w, i32_w]
                    rfl
                  refine pure_ (i := 11) (N := some 39) (v := undef) (a' := ?_) #[true, true, true, true, true, true, true, true, true, true, true, true, false, false, false, false, false, false, false, false, false, false, false, false, false] rfl rfl (by kernel_rfl) (fun _ _ _ h => h) (Or.inr ⟨by rfl, rfl⟩) ?_ ?_
                  rotate_left
                  · simp only [Act.put, List.setIfInBounds_toArray, List.set_cons_zero, List.set_cons_succ, i64_w, i32_w]
                    rfl
                  refine pure_ (i := 12) (N := some 40) (v := undef) (a' := ?_) #[true, true, true, true, true, true, true, true, true, true, true, true, true, false, false, false, false, false, false, false, false, false, false, false, false] rfl rfl (by kernel_rfl) (fun _ _ _ h => h) (Or.inr ⟨by rfl, rfl⟩) ?_ ?_
                  rotate_left
                  · simp only [Act.put, List.setIfInBounds_toArray, List.set_cons_zero, List.set_cons_succ, i64_w, i32_w]
                    rfl
                  refine pure_ (i := 13) (N := some 41) (v := ?_) (a' := ?_) #[true, true, true, true, true, true, true, true, true, true, true, true, true, true, false, false, false, false, false, false, false, false, false, false, false] rfl rfl (by kernel_rfl) (fun _ _ _ h => h) (Or.inl ⟨by rfl, ?_⟩) ?_ ?_
                  rotate_left
                  · intro w'
                    go_simp
                    with_reducible rfl
                  rotate_left
                  · simp only [Act.put, List.setIfInBounds_toArray, List.set_cons_zero, List.set_cons_succ, i64_w, i32_w]
                    rfl
                  refine pure_ (i := 14) (N := some 42) (v := ?_) (a' := ?_) #[true, true, true, true, true, true, true, true, true, true, true, true, true, true, true, false, false, false, false, false, false, false, false, false, false] rfl rfl (by kernel_rfl) (fun _ _ _ h => h) (Or.inl ⟨by rfl, ?_⟩) ?_ ?_
                  rotate_left
                  · intro w'
                    go_simp
                    with_reducible rfl
                  rotate_left
                  · simp only [Act.put, List.setIfInBounds_toArray, List.set_cons_zero, List.set_cons_succ, i64_w, i32_w]
                    rfl
                  refine pure_ (i := 15) (N := some 43) (v := undef) (a' := ?_) #[true, true, true, true, true, true, true, true, true, true, true, true, true, true, true, true, false, false, false, false, false, false, false, false, false] rfl rfl (by kernel_rfl) (fun _ _ _ h => h) (Or.inr ⟨by rfl, rfl⟩) ?_ ?_
                  rotate_left
                  · simp only [Act.put, List.setIfInBounds_toArray, List.set_cons_zero, List.set_cons_succ, i64_w, i32_w]
                    rfl
                  refine pure_ (i := 16) (N := some 44) (v := undef) (a' := ?_) #[true, true, true, true, true, true, true, true, true, true, true, true, true, true, true, true, true, false, false, false, false, false, false, false, false] rfl rfl (by kernel_rfl) (fun _ _ _ h => h) (Or.inr ⟨by rfl, rfl⟩) ?_ ?_
                  rotate_left
                  · simp only [Act.put, List.setIfInBounds_toArray, List.set_cons_zero, List.set_cons_succ, i64_w, i32_w]
                    rfl
                  refine pure_ (i := 17) (N := some 45) (v := undef) (a' := ?_) #[true, true, true, true, true, true, true, true, true, true, true, true, true, true, true, true, true, true, false, false, false, false, false, false, false] rfl rfl (by kernel_rfl) (fun _ _ _ h => h) (Or.inr ⟨by rfl, rfl⟩) ?_ ?_
                  rotate_left
                  · simp only [Act.put, List.setIfInBounds_toArray, List.set_cons_zero, List.set_cons_succ, i64_w, i32_w]
                    rfl
                  refine pure_ (i := 18) (N := some 46) (v := undef) (a' := ?_) #[true, true, true, true, true, true, true, true, true, true, true, true, true, true, true, true, true, true, true, false, false, false, false, false, false] rfl rfl (by kernel_rfl) (fun _ _ _ h => h) (Or.inr ⟨by rfl, rfl⟩) ?_ ?_
                  rotate_left
                  · simp only [Act.put, List.setIfInBounds_toArray, List.set_cons_zero, List.set_cons_succ, i64_w, i32_w]
                    rfl
                  refine pure_ (i := 19) (N := some 47) (v := undef) (a' := ?_) #[true, true, true, true, true, true, true, true, true, true, true, true, true, true, true, true, true, true, true, true, false, false, false, false, false] rfl rfl (by kernel_rfl) (fun _ _ _ h => h) (Or.inr ⟨by rfl, rfl⟩) ?_ ?_
                  rotate_left
                  · simp only [Act.put, List.setIfInBounds_toArray, List.set_cons_zero, List.set_cons_succ, i64_w, i32_w]
                    rfl
                  refine pure_ (i := 20) (N := some 48) (v := undef) (a' := ?_) #[true, true, true, true, true, true, true, true, true, true, true, true, true, true, true, true, true, true, true, true, true, false, false, false, false] rfl rfl (by kernel_rfl) (fun _ _ _ h => h) (Or.inr ⟨by rfl, rfl⟩) ?_ ?_
                  rotate_left
                  · simp only [Act.put, List.setIfInBounds_toArray, List.set_cons_zero, List.set_cons_succ, i64_w, i32_w]
                    rfl
                  refine pure_ (i := 21) (N := some 49) (v := undef) (a' := ?_) #[true, true, true, true, true, true, true, true, true, true, true, true, true, true, true, true, true, true, true, true, true, true, false, false, false] rfl rfl (by kernel_rfl) (fun _ _ _ h => h) (Or.inr ⟨by rfl, rfl⟩) ?_ ?_
                  rotate_left
                  · simp only [Act.put, List.setIfInBounds_toArray, List.set_cons_zero, List.set_cons_succ, i64_w, i32_w]
                    rfl
                  refine pure_ (i := 22) (N := some 50) (v := undef) (a' := ?_) #[true, true, true, true, true, true, true, true, true, true, true, true, true, true, true, true, true, true, true, true, true, true, true, false, false] rfl rfl (by kernel_rfl) (fun _ _ _ h => h) (Or.inr ⟨by rfl, rfl⟩) ?_ ?_
                  rotate_left
                  · simp only [Act.put, List.setIfInBounds_toArray, List.set_cons_zero, List.set_cons_succ, i64_w, i32_w]
                    rfl
                  refine pure_ (i := 23) (N := some 51) (v := ?_) (a' := ?_) #[true, true, true, true, true, true, true, true, true, true, true, true, true, true, true, true, true, true, true, true, true, true, true, true, false] rfl rfl (by kernel_rfl) (fun _ _ _ h => h) (Or.inl ⟨by rfl, ?_⟩) ?_ ?_
                  rotate_left
                  · intro w'
                    go_simp
                    with_reducible rfl
                  rotate_left
                  · simp only [Act.put, List.setIfInBounds_toArray, List.set_cons_zero, List.set_cons_succ, i64_w, i32_w]
                    rfl
                  refine pure_ (i := 24) (N := some 2) (v := ?_) (a' := ?_) #[true, true, true, true, true, true, true, true, true, true, true, true, true, true, true, true, true, true, true, true, true, true, true, true, true] rfl rfl (by kernel_rfl) (fun _ _ _ h => h) (Or.inl ⟨by rfl, ?_⟩) ?_ ?_
                  rotate_left
                  · intro w'
                    go_simp
                    with_reducible rfl
                  rotate_left
                  · simp only [Act.put, List.setIfInBounds_toArray, List.set_cons_zero, List.set_cons_succ, i64_w, i32_w]
                    rfl
                  refine done_ (by kernel_rfl) ?_
                  replace HS : Aside0 (Sep (fps []) w [] w712) := ⟨HS.out.sub (.cons _ .slnil)⟩
                  go_wp2_with fail
                  go_ret
                  rw [← some_eq H]
                  exact ⟨(by first | rfl | (simp [IntKind.wrap_u32]; done)), HS.out⟩
              · replace H := if_no c708 H
                have c708b0 : (a613 == 3) = false := beq_eq_false_iff_ne.mpr c708
                have c708b1 : (a613 != 3) = true := bne_iff_ne.mpr c708
                clear c708
                have hc690 : w681.cell? ⟨g620, 0, none⟩ = some (.int .i64 a613) := blk_cellv (HS.out.at0) 0 rfl
                replace HS : Aside0 (Sep (fps []) w [] w681) := ⟨HS.out.sub (.cons _ .slnil)⟩
                go_wp2_with fail
                clear hc690
                go_ret
                rw [← some_eq H]
                exact ⟨(by first | rfl | (simp [IntKind.wrap_u32]; done)), HS.out⟩

set_option maxHeartbeats 30000000 in
set_option maxRecDepth 100000 in
theorem pack_total.calls (k : Nat) (l811 : List Int) (A812 : Option Addr) (n813 : Nat) (r : Int) (w : World) (HR814 : Aside0 (Rd (Kd.int .i64) (fps []) w A812 l811.length l811)) (HGl0 : Aside0 (Gl 0 #[.int .i64 0, .int .i64 0, .int .i64 0, .int .i64 0, .int .i64 0] (fps []) w)) (HS : Aside0 (Sep (fps []) w [] w)) (H : Aside0 (pack_total.f k l811 = some r)) :
    Calls Tryd.prog 39 #[.slice A812 l811.length n813] w fun e w' => e = .returned (.int .i64 r) ∧ Sep (fps []) w [] w' := by
  unfold pack_total.f at H
  go_enter Tryd.func39, Tryd.ntmps39
  go_wp2_with fail
  obtain ⟨o827, AL828, H⟩ := bind_some H
  go_loopg [3, 8] k (fun kq v3 v8 wc => ∃ (x831 : Int) (x832 : Int), v3 = .int .i64 x831 ∧ v8 = .int .i64 x832 ∧ Aside0 (pack_total.lo0 kq l811 x831 x832 = some o827) ∧ Aside0 (Sep (fps []) w [] wc))
  case atStart => exact ⟨(0), (0), (by first | rfl | (simp [IntKind.wrap_u32]; done)), (by first | rfl | (simp [IntKind.wrap_u32]; done)), AL828, ⟨HS.out⟩⟩
  case round =>
    clear AL828 HS
    obtain ⟨x831, x832, rfl, rfl, AL828, HS⟩ := hrel
    obtain ⟨w829, rfl⟩ : ∃ x : World, x = wr := ⟨_, rfl⟩
    cases gk with
    | zero => exact absurd AL828.out (by simp [pack_total.lo0])
    | succ k830 =>
      have AL0 := AL828.out
      rw [pack_total.lo0] at AL0
      clear AL828
      have AL828 := Aside0.mk AL0
      clear AL0
      by_cases c833 : x832 < (l811.length : Int)
      · replace AL828 := if_yes c833 AL828
        have c833b0 : decide (x832 < (l811.length : Int)) = true := decide_eq_true c833
        clear c833
        by_cases c834 : 0 ≤ x832
        · replace AL828 := if_yes c834 AL828
          have c834b0 : decide (0 ≤ x832) = true := decide_eq_true c834
          have c834p : (0 ≤ x832) = True := eq_true c834
          clear c834
          have ip835 : (x832 < (l811.length : Int)) = True := eq_true (of_decide_eq_true c833b0)
          by_cases c837 : (rd l811 x832) < 1
          · replace AL828 := if_yes c837 AL828
            have c837b0 : decide ((rd l811 x832) < 1) = true := decide_eq_true c837
            clear c837
            obtain ⟨hx836a, hx836e, hx836⟩ := Kd.at_int (Rd.read (fun _ _ _ _ h => h) HR814.out HS.out.fr) x832 (of_decide_eq_true c834b0) (of_decide_eq_true c833b0); cases hx836e
            go_wp2_with fail
            clear hx836
            have ho := some_eq AL828
            subst ho
            have H := lp_ret H
            go_ret
            rw [← some_eq H]
            exact ⟨(by first | rfl | (simp [IntKind.wrap_u32]; done)), HS.out⟩
          · replace AL828 := if_no c837 AL828
            have c837b0 : decide ((rd l811 x832) < 1) = false := decide_eq_false c837
            clear c837
            by_cases c838 : (rd l811 x832) > (wrap64 (32 - x831))
            · replace AL828 := if_yes c838 AL828
              have c838b0 : decide ((wrap64 (32 - x831)) < (rd l811 x832)) = true := decide_eq_true c838
              clear c838
              obtain ⟨hx836a, hx836e, hx836⟩ := Kd.at_int (Rd.read (fun _ _ _ _ h => h) HR814.out HS.out.fr) x832 (of_decide_eq_true c834b0) (of_decide_eq_true c833b0); cases hx836e
              go_wp2_with fail
              clear hx836
              have ho := some_eq AL828
              subst ho
              have H := lp_ret H
              go_ret
              rw [← some_eq H]
              exact ⟨(by first | rfl | (simp [IntKind.wrap_u32]; done)), HS.out⟩
            · replace AL828 := if_no c838 AL828
              have c838b0 : decide ((wrap64 (32 - x831)) < (rd l811 x832)) = false := decide_eq_false c838
              clear c838
              obtain ⟨hx836a, hx836e, hx836⟩ := Kd.at_int (Rd.read (fun _ _ _ _ h => h) HR814.out HS.out.fr) x832 (of_decide_eq_true c834b0) (of_decide_eq_true c833b0); cases hx836e
              go_wp2_with fail
              clear hx836
              go_roundg k830
              case measure => exact Nat.lt_succ_self _
              case rel => exact ⟨(wrap64 (x831 + (rd l811 x832))), (wrap64 (x832 + 1)), (by first | rfl | (simp [IntKind.wrap_u32]; done)), (by first | rfl | (simp [IntKind.wrap_u32]; done)), Aside0.mk AL828.out, ⟨HS.out⟩⟩
        · replace AL828 := if_no c834 AL828
          have c834b0 : decide (0 ≤ x832) = false := decide_eq_false c834
          clear c834
          exact (none_no AL828).elim
      · replace AL828 := if_no c833 AL828
        have c833b0 : decide (x832 < (l811.length : Int)) = false := decide_eq_false c833
        clear c833
        have ho := some_eq AL828
        subst ho
        clear AL828
        have H := lp_out H
        go_wp2_with fail
        go_ret
        rw [← some_eq H]
        exact ⟨(by first | rfl | (simp [IntKind.wrap_u32]; done)), HS.out⟩

set_option maxHeartbeats 30000000 in
set_option maxRecDepth 100000 in
theorem pack_isPiece.calls (a863 : Int) (a864 : Int) (r : Bool) (w : World)  (HGl0 : Aside0 (Gl 0 #[.int .i64 0, .int .i64 0, .int .i64 0, .int .i64 0, .int .i64 0] (fps []) w)) (HS : Aside0 (Sep (fps []) w [] w)) (H : Aside0 (pack_isPiece.f a863 a864 = some r)) :
    Calls Tryd.prog 46 #[.int .i64 a863, .int .i64 a864] w fun e w' => e = .returned (.bool r) ∧ Sep (fps []) w [] w' := by
  unfold pack_isPiece.f at H
  go_enter Tryd.func46, Tryd.ntmps46
  by_cases c865 : a863 ≥ 0
  · replace H := if_yes c865 H
    have c865b0 : decide (0 ≤ a863) = true := decide_eq_true c865
    clear c865
    by_cases c866 : a864 ≥ 1
    · replace H := if_yes c866 H
      have c866b0 : decide (1 ≤ a864) = true := decide_eq_true c866
      clear c866
      by_cases c867 : a864 ≤ 32
      · replace H := if_yes c867 H
        have c867b0 : decide (a864 ≤ 32) = true := decide_eq_true c867
        clear c867
        go_wp2_with fail
        go_ret
        rw [← some_eq H]
        exact ⟨(by first | rfl | (simp [IntKind.wrap_u32]; done)), HS.out⟩
      · replace H := if_no c867 H
        have c867b0 : decide (a864 ≤ 32) = false := decide_eq_false c867
        clear c867
        go_wp2_with fail
        go_ret
        rw [← some_eq H]
        exact ⟨(by first | rfl | (simp [IntKind.wrap_u32]; done)), HS.out⟩
    · replace H := if_no c866 H
      have c866b0 : decide (1 ≤ a864) = false := decide_eq_false c866
      clear c866
      go_wp2_with fail
      go_ret
      rw [← some_eq H]
      exact ⟨(by first | rfl | (simp [IntKind.wrap_u32]; done)), HS.out⟩
  · replace H := if_no c865 H
    have c865b0 : decide (0 ≤ a863) = false := decide_eq_false c865
    clear c865
    go_wp2_with fail
    go_ret
    rw [← some_eq H]
    exact ⟨(by first | rfl | (simp [IntKind.wrap_u32]; done)), HS.out⟩

set_option maxHeartbeats 30000000 in
set_option maxRecDepth 100000 in
theorem pack_Fits.calls (a872 : Int) (a873 : Int) (r : Bool) (w : World)  (HGl0 : Aside0 (Gl 0 #[.int .i64 0, .int .i64 0, .int .i64 0, .int .i64 0, .int .i64 0] (fps []) w)) (HS : Aside0 (Sep (fps []) w [] w)) (H : Aside0 (pack_Fits.f a872 a873 = some r)) :
    Calls Tryd.prog 49 #[.int .u32 a872, .int .i64 a873] w fun e w' => e = .returned (.bool r) ∧ Sep (fps []) w [] w' := by
  unfold pack_Fits.f at H
  go_enter Tryd.func49, Tryd.ntmps49
  by_cases c874 : a873 ≥ 32
  · replace H := if_yes c874 H
    have c874b0 : decide (32 ≤ a873) = true := decide_eq_true c874
    clear c874
    go_wp2_with fail
    go_ret
    rw [← some_eq H]
    exact ⟨(by first | rfl | (simp [IntKind.wrap_u32]; done)), HS.out⟩
  · replace H := if_no c874 H
    have c874b0 : decide (32 ≤ a873) = false := decide_eq_false c874
    clear c874
    by_cases c875 : a873 < 0
    · replace H := if_yes c875 H
      have c875b0 : decide (a873 < 0) = true := decide_eq_true c875
      skip
      go_wp2_with fail
      clear c875
      go_ret
      rw [← some_eq H]
      exact ⟨(by first | rfl | (simp [IntKind.wrap_u32]; done)), HS.out⟩
    · replace H := if_no c875 H
      have c875b0 : decide (a873 < 0) = false := decide_eq_false c875
      by_cases c876 : 0 ≤ (IntKind.u64.wrap (a873))
      · replace H := if_yes c876 H
        have c876b0 : decide (0 ≤ (IntKind.u64.wrap (a873))) = true := decide_eq_true c876
        skip
        skip
        go_wp2_with fail
        clear c875 c876
        go_ret
        rw [← some_eq H]
        exact ⟨(by first | rfl | (simp [IntKind.wrap_u32]; done)), HS.out⟩
      · replace H := if_no c876 H
        have c876b0 : decide (0 ≤ (IntKind.u64.wrap (a873))) = false := decide_eq_false c876
        exact (none_no H).elim

set_option maxHeartbeats 30000000 in
set_option maxRecDepth 100000 in
theorem pack_mask.calls (a881 : Int) (a882 : Int) (r : Int) (w : World)  (HGl0 : Aside0 (Gl 0 #[.int .i64 0, .int .i64 0, .int .i64 0, .int .i64 0, .int .i64 0] (fps []) w)) (HS : Aside0 (Sep (fps []) w [] w)) (H : Aside0 (pack_mask.f a881 a882 = some r)) :
    Calls Tryd.prog 47 #[.int .i64 a881, .int .i64 a882] w fun e w' => e = .returned (.int .u32 r) ∧ Sep (fps []) w [] w' := by
  unfold pack_mask.f at H
  go_enter Tryd.func47, Tryd.ntmps47
  by_cases c883 : 0 ≤ (IntKind.u64.wrap (a882))
  · replace H := if_yes c883 H
    have c883b0 : decide (0 ≤ (IntKind.u64.wrap (a882))) = true := decide_eq_true c883
    by_cases c884 : 0 ≤ (IntKind.u64.wrap (a881))
    · replace H := if_yes c884 H
      have c884b0 : decide (0 ≤ (IntKind.u64.wrap (a881))) = true := decide_eq_true c884
      skip
      skip
      go_wp2_with fail
      clear c883 c884
      go_ret
      rw [← some_eq H]
      exact ⟨(by first | rfl | (simp [IntKind.wrap_u32]; done)), HS.out⟩
    · replace H := if_no c884 H
      have c884b0 : decide (0 ≤ (IntKind.u64.wrap (a881))) = false := decide_eq_false c884
      exact (none_no H).elim
  · replace H := if_no c883 H
    have c883b0 : decide (0 ≤ (IntKind.u64.wrap (a882))) = false := decide_eq_false c883
    exact (none_no H).elim

set_option maxHeartbeats 30000000 in
set_option maxRecDepth 100000 in
theorem pack_Put.calls (a859 : Int) (a860 : Int) (a861 : Int) (a862 : Int) (r : Int × Int) (w : World)  (HGl0 : Aside0 (Gl 0 #[.int .i64 0, .int .i64 0, .int .i64 0, .int .i64 0, .int .i64 0] (fps []) w)) (HS : Aside0 (Sep (fps []) w [] w)) (H : Aside0 (pack_Put.f a859 a860 a861 a862 = some r)) :
    Calls Tryd.prog 40 #[.int .u32 a859, .int .i64 a860, .int .i64 a861, .int .u32 a862] w fun e w' => e = .returned (.tuple #[.int .u32 r.1, .int .i64 r.2]) ∧ Sep (fps []) w [] w' := by
  unfold pack_Put.f at H
  go_enter Tryd.func40, Tryd.ntmps40
  go_wp2_with fail
  obtain ⟨t868, HA869, H⟩ := bind_some H
  refine (pack_isPiece.calls a860 a861 t868 _ ⟨HGl0.out.pass (l := []) HS.out⟩ ⟨Sep.start _⟩ HA869).mono ?_
  rintro e_ w870 ⟨rfl, hS⟩
  replace HS : Aside0 (Sep (fps []) w [] w870) := ⟨HS.out.call hS⟩
  clear hS
  by_cases c871 : t868 = true
  · replace H := if_yes c871 H
    have c871b0 : t868 = true := c871
    have c871b1 : (!t868) = false := by rw [c871b0]; rfl
    try rw [c871b1]
    clear c871
    go_wp2_with fail
    obtain ⟨t877, HA878, H⟩ := bind_some H
    refine (pack_Fits.calls a862 a861 t877 _ ⟨HGl0.out.pass (l := []) HS.out⟩ ⟨Sep.start _⟩ HA878).mono ?_
    rintro e_ w879 ⟨rfl, hS⟩
    replace HS : Aside0 (Sep (fps []) w [] w879) := ⟨HS.out.call hS⟩
    clear hS
    by_cases c880 : t877 = true
    · replace H := if_yes c880 H
      have c880b0 : t877 = true := c880
      have c880b1 : (!t877) = false := by rw [c880b0]; rfl
      try rw [c880b1]
      clear c880
      go_wp2_with fail
      obtain ⟨t885, HA886, H⟩ := bind_some H
      refine (pack_mask.calls a860 a861 t885 _ ⟨HGl0.out.pass (l := []) HS.out⟩ ⟨Sep.start _⟩ HA886).mono ?_
      rintro e_ w887 ⟨rfl, hS⟩
      replace HS : Aside0 (Sep (fps []) w [] w887) := ⟨HS.out.call hS⟩
      clear hS
      by_cases c888 : 0 ≤ (IntKind.u64.wrap (a860))
      · replace H := if_yes c888 H
        have c888b0 : decide (0 ≤ (IntKind.u64.wrap (a860))) = true := decide_eq_true c888
        skip
        go_wp2_with fail
        clear c888
        go_ret2
        rw [← some_eq H]
        exact ⟨(by first | rfl | (simp [IntKind.wrap_u32]; done)), HS.out⟩
      · replace H := if_no c888 H
        have c888b0 : decide (0 ≤ (IntKind.u64.wrap (a860))) = false := decide_eq_false c888
        exact (none_no H).elim
    · replace H := if_no c880 H
      have c880b0 : t877 = false := by simpa using c880
      have c880b1 : (!t877) = true := by rw [c880b0]; rfl
      try rw [c880b1]
      clear c880
      go_wp2_with fail
      go_ret2
      rw [← some_eq H]
      exact ⟨(by first | rfl | (simp [IntKind.wrap_u32]; done)), HS.out⟩
  · replace H := if_no c871 H
    have c871b0 : t868 = false := by simpa using c871
    have c871b1 : (!t868) = true := by rw [c871b0]; rfl
    try rw [c871b1]
    clear c871
    go_wp2_with fail
    go_ret2
    rw [← some_eq H]
    exact ⟨(by first | rfl | (simp [IntKind.wrap_u32]; done)), HS.out⟩

set_option maxHeartbeats 30000000 in
set_option maxRecDepth 100000 in
theorem pack_Join.calls (k : Nat) (l803 : List Int) (l807 : List Int) (A804 : Option Addr) (n805 : Nat) (A808 : Option Addr) (n809 : Nat) (r : Int × Int) (w : World) (HR806 : Aside0 (Rd (Kd.int .u32) (fps []) w A804 l803.length l803)) (HR810 : Aside0 (Rd (Kd.int .i64) (fps []) w A808 l807.length l807)) (HGl0 : Aside0 (Gl 0 #[.int .i64 0, .int .i64 0, .int .i64 0, .int .i64 0, .int .i64 0] (fps []) w)) (HS : Aside0 (Sep (fps []) w [] w)) (H : Aside0 (pack_Join.f k l803 l807 = some r)) :
    Calls Tryd.prog 24 #[.slice A804 l803.length n805, .slice A808 l807.length n809] w fun e w' => e = .returned (.tuple #[.int .u32 r.1, .int .i64 r.2]) ∧ Sep (fps []) w [] w' := by
  unfold pack_Join.f at H
  go_enter Tryd.func24, Tryd.ntmps24
  go_wp2_with fail
  obtain ⟨t840, HA841, H⟩ := bind_some H
  refine (pack_total.calls _ l807 A808 n809 t840 _ ⟨Rd.pass (l := []) (by decide) (fun _ _ _ _ h => h) HR810.out HS.out⟩ ⟨HGl0.out.pass (l := []) HS.out⟩ ⟨Sep.start _⟩ HA841).mono ?_
  rintro e_ w842 ⟨rfl, hS⟩
  replace HS : Aside0 (Sep (fps []) w [] w842) := ⟨HS.out.call hS⟩
  clear hS
  by_cases c843 : t840 < 0
  · replace H := if_yes c843 H
    have c843b0 : decide (t840 < 0) = true := decide_eq_true c843
    clear c843
    go_wp2_with fail
    go_ret2
    rw [← some_eq H]
    exact ⟨(by first | rfl | (simp [IntKind.wrap_u32]; done)), HS.out⟩
  · replace H := if_no c843 H
    have c843b0 : decide (t840 < 0) = false := decide_eq_false c843
    clear c843
    by_cases c844 : (l803.length : Int) = (l807.length : Int)
    · replace H := if_yes c844 H
      have c844b0 : ((l803.length : Int) == (l807.length : Int)) = true := beq_iff_eq.mpr c844
      have c844b1 : ((l803.length : Int) != (l807.length : Int)) = false := bne_eq_false_iff_eq.mpr c844
      clear c844
      go_wp2_with fail
      obtain ⟨o893, AL894, H⟩ := bind_some H
      go_loopg [6, 7, 24] k (fun kq v6 v7 v24 wc => ∃ (x897 : Int) (x898 : Int) (x899 : Int), v6 = .int .u32 x897 ∧ v7 = .int .i64 x898 ∧ v24 = .int .i64 x899 ∧ Aside0 (pack_Join.lo0 kq l803 l807 x897 x898 x899 = some o893) ∧ Aside0 (Sep (fps []) w [] wc))
      case atStart => exact ⟨(0), (0), (0), (by first | rfl | (simp [IntKind.wrap_u32]; done)), (by first | rfl | (simp [IntKind.wrap_u32]; done)), (by first | rfl | (simp [IntKind.wrap_u32]; done)), AL894, ⟨HS.out⟩⟩
      case round =>
        clear AL894 HS
        obtain ⟨x897, x898, x899, rfl, rfl, rfl, AL894, HS⟩ := hrel
        obtain ⟨w895, rfl⟩ : ∃ x : World, x = wr := ⟨_, rfl⟩
        cases gk with
        | zero => exact absurd AL894.out (by simp [pack_Join.lo0])
        | succ k896 =>
          have AL0 := AL894.out
          rw [pack_Join.lo0] at AL0
          clear AL894
          have AL894 := Aside0.mk AL0
          clear AL0
          by_cases c900 : x899 < (l807.length : Int)
          · replace AL894 := if_yes c900 AL894
            have c900b0 : decide (x899 < (l807.length : Int)) = true := decide_eq_true c900
            clear c900
            by_cases c901 : 0 ≤ x899
            · replace AL894 := if_yes c901 AL894
              have c901b0 : decide (0 ≤ x899) = true := decide_eq_true c901
              have c901p : (0 ≤ x899) = True := eq_true c901
              clear c901
              have ip902 : (x899 < (l807.length : Int)) = True := eq_true (of_decide_eq_true c900b0)
              by_cases c904 : x899 < (l803.length : Int)
              · replace AL894 := if_yes c904 AL894
                have c904b0 : decide (x899 < (l803.length : Int)) = true := decide_eq_true c904
                have c904p : (x899 < (l803.length : Int)) = True := eq_true c904
                clear c904
                obtain ⟨hx903a, hx903e, hx903⟩ := Kd.at_int (Rd.read (fun _ _ _ _ h => h) HR810.out HS.out.fr) x899 (of_decide_eq_true c901b0) (of_decide_eq_true c900b0); cases hx903e
                obtain ⟨hx905a, hx905e, hx905⟩ := Kd.at_int (Rd.read (fun _ _ _ _ h => h) HR806.out HS.out.fr) x899 (of_decide_eq_true c901b0) (of_decide_eq_true c904b0); cases hx905e
                go_wp2_with fail
                clear hx903 hx905
                obtain ⟨t889, HA906, AL894⟩ := bind_some AL894
                refine (pack_Put.calls x897 x898 (rd l807 x899) (rd l803 x899) t889 _ ⟨HGl0.out.pass (l := []) HS.out⟩ ⟨Sep.start _⟩ HA906).mono ?_
                rintro e_ w907 ⟨rfl, hS⟩
                replace HS : Aside0 (Sep (fps []) w [] w907) := ⟨HS.out.call hS⟩
                clear hS
                by_cases c908 : t889.2 = 0
                · replace AL894 := if_yes c908 AL894
                  have c908b0 : (t889.2 == 0) = true := beq_iff_eq.mpr c908
                  have c908b1 : (t889.2 != 0) = false := bne_eq_false_iff_eq.mpr c908
                  clear c908
                  go_wp2_with fail
                  go_roundg k896
                  case measure => exact Nat.lt_succ_self _
                  case rel => exact ⟨(t889.1), (wrap64 (x898 + (rd l807 x899))), (wrap64 (x899 + 1)), (by first | rfl | (simp [IntKind.wrap_u32]; done)), (by first | rfl | (simp [IntKind.wrap_u32]; done)), (by first | rfl | (simp [IntKind.wrap_u32]; done)), Aside0.mk AL894.out, ⟨HS.out⟩⟩
                · replace AL894 := if_no c908 AL894
                  have c908b0 : (t889.2 == 0) = false := beq_eq_false_iff_ne.mpr c908
                  have c908b1 : (t889.2 != 0) = true := bne_iff_ne.mpr c908
                  clear c908
                  go_wp2_with fail
                  have ho := some_eq AL894
                  subst ho
                  have H := lp_ret H
                  go_ret2
                  rw [← some_eq H]
                  exact ⟨(by first | rfl | (simp [IntKind.wrap_u32]; done)), HS.out⟩
              · replace AL894 := if_no c904 AL894
                have c904b0 : decide (x899 < (l803.length : Int)) = false := decide_eq_false c904
                clear c904
                exact (none_no AL894).elim
            · replace AL894 := if_no c901 AL894
              have c901b0 : decide (0 ≤ x899) = false := decide_eq_false c901
              clear c901
              exact (none_no AL894).elim
          · replace AL894 := if_no c900 AL894
            have c900b0 : decide (x899 < (l807.length : Int)) = false := decide_eq_false c900
            clear c900
            have ho := some_eq AL894
            subst ho
            clear AL894
            have H := lp_out H
            go_wp2_with fail
            go_ret2
            rw [← some_eq H]
            exact ⟨(by first | rfl | (simp [IntKind.wrap_u32]; done)), HS.out⟩
    · replace H := if_no c844 H
      have c844b0 : ((l803.length : Int) == (l807.length : Int)) = false := beq_eq_false_iff_ne.mpr c844
      have c844b1 : ((l803.length : Int) != (l807.length : Int)) = true := bne_iff_ne.mpr c844
      clear c844
      go_wp2_with fail
      go_ret2
      rw [← some_eq H]
      exact ⟨(by first | rfl | (simp [IntKind.wrap_u32]; done)), HS.out⟩

set_option maxHeartbeats 30000000 in
set_option maxRecDepth 100000 in
theorem tag_Pack.calls (k : Nat) (a596 : Int) (a597 : Int) (a598 : Int) (a599 : Int) (a600 : Int) (a601 : Int) (a602 : Int) (r : Int × Int) (w : World)  (HGl0 : Aside0 (Gl 0 #[.int .i64 0, .int .i64 0, .int .i64 0, .int .i64 0, .int .i64 0] (fps []) w)) (HS : Aside0 (Sep (fps []) w [] w)) (H : Aside0 (tag_Pack.f k a596 a597 a598 a599 a600 a601 a602 = some r)) :
    Calls Tryd.prog 8 #[.agg #[.int .i64 a596, .int .i64 a597, .int .i64 a598, .int .i64 a599, .int .i64 a600, .int .i64 a601, .int .i64 a602]] w fun e w' => e = .returned (.tuple #[.int .u32 r.1, .int .i64 r.2]) ∧ Sep (fps []) w [] w' := by
  unfold tag_Pack.f at H
  go_enter Tryd.func8, Tryd.ntmps8
  go_wp2_with (first | ((with_reducible refine gate_dst (N := 1) rfl ?_); refine box_on ?hg (N := 1) ?hd (cs := #[.int .i64 a596, .int .i64 a597, .int .i64 a598, .int .i64 a599, .int .i64 a600, .int .i64 a601, .int .i64 a602]) (t := 23) ?hr ?_; (case hd => rfl); (case hg => rfl); (case hr => first | (go_simp; done) | (go_simp; rfl)); intro g603 hg w604 hbox hb; replace HS : Aside0 (Sep (fps []) w [b5 g603 a596 a597 a598 a599 a600 a601 a602] w604) := ⟨HS.out.box hg hbox hb⟩; clear hg hbox hb; have hc606 : w604.cell? ⟨g603, 0, none⟩ = some (.int .i64 a596) := blk_cellv (HS.out.at0) 0 rfl; have hc607 : w604.cell? ⟨g603, 1, none⟩ = some (.int .i64 a597) := blk_cellv (HS.out.at0) 1 rfl; have hc608 : w604.cell? ⟨g603, 2, none⟩ = some (.int .i64 a598) := blk_cellv (HS.out.at0) 2 rfl; have hc609 : w604.cell? ⟨g603, 3, none⟩ = some (.int .i64 a599) := blk_cellv (HS.out.at0) 3 rfl; have hc610 : w604.cell? ⟨g603, 4, none⟩ = some (.int .i64 a600) := blk_cellv (HS.out.at0) 4 rfl; have hc611 : w604.cell? ⟨g603, 5, none⟩ = some (.int .i64 a601) := blk_cellv (HS.out.at0) 5 rfl; have hc612 : w604.cell? ⟨g603, 6, none⟩ = some (.int .i64 a602) := blk_cellv (HS.out.at0) 6 rfl))
  clear hc606 hc607 hc608 hc609 hc610 hc611 hc612
  obtain ⟨t745, HA746, H⟩ := bind_some H
  refine (tag_Right.calls _ a596 a597 a598 a599 a600 a601 a602 t745 _ ⟨HGl0.out.pass (l := []) HS.out⟩ ⟨Sep.start _⟩ HA746).mono ?_
  rintro e_ w747 ⟨rfl, hS⟩
  replace HS : Aside0 (Sep (fps []) w [b5 g603 a596 a597 a598 a599 a600 a601 a602] w747) := ⟨HS.out.call hS⟩
  clear hS
  by_cases c748 : t745 = true
  · replace H := if_yes c748 H
    have c748b0 : t745 = true := c748
    have c748b1 : (!t745) = false := by rw [c748b0]; rfl
    try rw [c748b1]
    clear c748
    have hc749 : w747.cell? ⟨g603, 0, none⟩ = some (.int .i64 a596) := blk_cellv (HS.out.at0) 0 rfl
    go_wp2_with (first | ((with_reducible refine gate_dst (N := 13) rfl ?_); refine slice_on (n := 1) ?hg (N := 13) ?hd (cs := #[.int .u32 ((a596) % 4294967296)]) (t := 24) ?hr ?_; (case hd => rfl); (case hg => rfl); (case hr => first | (go_simp; done) | (go_simp; rfl)); intro g750 hg w751 hbox hb; clear hc749; replace HS : Aside0 (Sep (fps []) w [b5 g603 a596 a597 a598 a599 a600 a601 a602, b7 g750 ((a596) % 4294967296)] w751) := ⟨HS.out.box hg hbox hb⟩; clear hg hbox hb; have hc753 : w751.cell? ⟨g603, 0, none⟩ = some (.int .i64 a596) := blk_cellv (HS.out.at0) 0 rfl; have hc754 : w751.cell? ⟨g603, 1, none⟩ = some (.int .i64 a597) := blk_cellv (HS.out.at0) 1 rfl; have hc755 : w751.cell? ⟨g603, 2, none⟩ = some (.int .i64 a598) := blk_cellv (HS.out.at0) 2 rfl; have hc756 : w751.cell? ⟨g603, 3, none⟩ = some (.int .i64 a599) := blk_cellv (HS.out.at0) 3 rfl; have hc757 : w751.cell? ⟨g603, 4, none⟩ = some (.int .i64 a600) := blk_cellv (HS.out.at0) 4 rfl; have hc758 : w751.cell? ⟨g603, 5, none⟩ = some (.int .i64 a601) := blk_cellv (HS.out.at0) 5 rfl; have hc759 : w751.cell? ⟨g603, 6, none⟩ = some (.int .i64 a602) := blk_cellv (HS.out.at0) 6 rfl))
    clear hc753 hc754 hc755 hc756 hc757 hc758 hc759
    obtain ⟨t760, HA761, H⟩ := bind_some H
    refine (tag_marks.calls a596 a597 a598 a599 a600 a601 a602 t760 _ ⟨HGl0.out.pass (l := []) HS.out⟩ ⟨Sep.start _⟩ HA761).mono ?_
    rintro e_ w762 ⟨rfl, hS⟩
    replace HS : Aside0 (Sep (fps []) w [b5 g603 a596 a597 a598 a599 a600 a601 a602, b7 g750 ((a596) % 4294967296)] w762) := ⟨HS.out.call hS⟩
    clear hS
    go_wp2_with fail
    replace HS : Aside0 (Sep (fps []) w [b5 g603 a596 a597 a598 a599 a600 a601 a602, r8 (some ⟨g750, 0, none⟩) 1 1 [(a596) % 4294967296]] w762) := ⟨Sep.litrow (l1 := [b5 g603 a596 a597 a598 a599 a600 a601 a602]) (l2 := []) (enc := Value.int .u32) (xs := [(a596) % 4294967296]) (n := 1) HS.out rfl (by decide)⟩
    obtain ⟨o764, AL765, H⟩ := bind_some H
    go_loopg [4, 16] k (fun kq v4 v16 wc => ∃ (x769 : Int) (x770 : List Int) (A771 : Option Addr) (m772 : Nat) (n773 : Nat), v4 = .slice A771 m772 n773 ∧ v16 = .int .i64 x769 ∧ Aside0 (tag_Pack.lo0 kq t760 x769 x770 = some o764) ∧ Aside0 (Sep (fps []) w [b5 g603 a596 a597 a598 a599 a600 a601 a602, r8 A771 m772 n773 x770] wc))
    case atStart => exact ⟨(0), ([(a596) % 4294967296]), ((some ⟨g750, 0, none⟩)), (1), (1), (by first | rfl | (simp [IntKind.wrap_u32]; done)), (by first | rfl | (simp [IntKind.wrap_u32]; done)), AL765, ⟨HS.out⟩⟩
    case round =>
      clear AL765 HS
      obtain ⟨x769, x770, A771, m772, n773, rfl, rfl, AL765, HS⟩ := hrel
      obtain ⟨w766, rfl⟩ : ∃ x : World, x = wr := ⟨_, rfl⟩
      obtain rfl := (row_len (HS.out.at1)).symm
      cases gk with
      | zero => exact absurd AL765.out (by simp [tag_Pack.lo0])
      | succ k767 =>
        have AL0 := AL765.out
        rw [tag_Pack.lo0] at AL0
        clear AL765
        have AL765 := Aside0.mk AL0
        clear AL0
        by_cases c775 : x769 < 5
        · replace AL765 := if_yes c775 AL765
          have c775b0 : decide (x769 < 5) = true := decide_eq_true c775
          clear c775
          by_cases c776 : 0 ≤ x769
          · replace AL765 := if_yes c776 AL765
            have c776b0 : decide (0 ≤ x769) = true := decide_eq_true c776
            have c776p : (0 ≤ x769) = True := eq_true c776
            clear c776
            have ip777 : (x769 < 5) = True := eq_true (of_decide_eq_true c775b0)
            have ix778 : ∀ w, (Instr.index 51 (.agg #[.int .i64 t760.1, .int .i64 t760.2.1, .int .i64 t760.2.2.1, .int .i64 t760.2.2.2.1, .int .i64 t760.2.2.2.2]) (.int .i64 x769)).run Tryd.prog w = .ok (.int .i64 (rd [t760.1, t760.2.1, t760.2.2.1, t760.2.2.2.1, t760.2.2.2.2] x769)) w := run_index_ints 51 3 5 .i64 .i64 [t760.1, t760.2.1, t760.2.2.1, t760.2.2.2.1, t760.2.2.2.2] x769 Tryd.underlying51 (fun _ => by kernel_rfl) (fun _ => by kernel_rfl) rfl (of_decide_eq_true c776b0) (of_decide_eq_true c775b0)
            by_cases c782 : x770.length < 35184372088832
            · replace AL765 := if_yes c782 AL765
              have c782b0 : decide (x770.length < 35184372088832) = true := decide_eq_true c782
              clear c782
              obtain ⟨y786, HA787, AL765⟩ := bind_some AL765
              go_wp2_with (first | ((with_reducible refine gate_dst (N := 22) rfl ?_); refine slice_on (n := 1) ?hg (N := 22) ?hd (cs := #[.int .u32 ((rd [t760.1, t760.2.1, t760.2.2.1, t760.2.2.2.1, t760.2.2.2.2] x769) % 4294967296)]) (t := 24) ?hr ?_; (case hd => rfl); (case hg => rfl); (case hr => first | (go_simp; done) | (go_simp; rfl)); intro g779 hg w780 hbox hb; replace HS : Aside0 (Sep (fps []) w [b5 g603 a596 a597 a598 a599 a600 a601 a602, r8 A771 x770.length n773 x770, b7 g779 ((rd [t760.1, t760.2.1, t760.2.2.1, t760.2.2.2.1, t760.2.2.2.2] x769) % 4294967296)] w780) := ⟨HS.out.box hg hbox hb⟩; clear hg hbox hb) | ((with_reducible refine gate_dst (N := 23) rfl ?_); refine append_event (l1 := [b5 g603 a596 a597 a598 a599 a600 a601 a602]) (l2 := [b7 g779 ((rd [t760.1, t760.2.1, t760.2.2.1, t760.2.2.2.1, t760.2.2.2.2] x769) % 4294967296)]) rfl (.tmp 19) (.tmp 22) 50 24 (.int .u32 0) 4 rfl Tryd.underlying50 (by kernel_rfl) rfl (by decide) (Value.int .u32) (fun _ => rfl) (.slice A771 x770.length n773) (x770 : List Int) [(rd [t760.1, t760.2.1, t760.2.2.1, t760.2.2.2.1, t760.2.2.2.2] x769) % 4294967296] ⟨g779, 0, none⟩ 1 rfl rfl (blk_news (xs := [(rd [t760.1, t760.2.1, t760.2.2.1, t760.2.2.2.1, t760.2.2.2.2] x769) % 4294967296]) (HS.out.at2)) HS.out (by have := of_decide_eq_true c782b0; simp only [List.length_cons, List.length_nil]; omega) HA787 ?_; intro A783 n784 w785 HS1; replace HS : Aside0 (Sep (fps []) w [b5 g603 a596 a597 a598 a599 a600 a601 a602, r8 A783 y786.length n784 y786, b7 g779 ((rd [t760.1, t760.2.1, t760.2.2.1, t760.2.2.2.1, t760.2.2.2.2] x769) % 4294967296)] w785) := ⟨HS1⟩; clear HS1; replace HS : Aside0 (Sep (fps []) w [b5 g603 a596 a597 a598 a599 a600 a601 a602, r8 A783 y786.length n784 y786] w785) := ⟨HS.out.sub (.cons_cons _ (.cons_cons _ (.cons _ .slnil)))⟩))
              go_roundg k767
              case measure => exact Nat.lt_succ_self _
              case rel => exact ⟨(wrap64 (x769 + 1)), (y786), (A783), (y786.length), (n784), (by first | rfl | (simp [IntKind.wrap_u32]; done)), (by first | rfl | (simp [IntKind.wrap_u32]; done)), Aside0.mk AL765.out, ⟨HS.out⟩⟩
            · replace AL765 := if_no c782 AL765
              have c782b0 : decide (x770.length < 35184372088832) = false := decide_eq_false c782
              clear c782
              exact (none_no AL765).elim
          · replace AL765 := if_no c776 AL765
            have c776b0 : decide (0 ≤ x769) = false := decide_eq_false c776
            clear c776
            exact (none_no AL765).elim
        · replace AL765 := if_no c775 AL765
          have c775b0 : decide (x769 < 5) = false := decide_eq_false c775
          clear c775
          have ho := some_eq AL765
          subst ho
          clear AL765
          by_cases c793 : x770.length < 35184372088831
          · replace H := if_yes c793 H
            have c793b0 : decide (x770.length < 35184372088831) = true := decide_eq_true c793
            clear c793
            obtain ⟨y797, HA798, H⟩ := bind_some H
            have hc789 : w766.cell? ⟨g603, 6, none⟩ = some (.int .i64 a602) := blk_cellv (HS.out.at0) 6 rfl
            go_wp2_with (first | ((with_reducible refine gate_dst (N := 29) rfl ?_); refine slice_on (n := 2) ?hg (N := 29) ?hd (cs := #[.int .u32 0, .int .u32 ((a602) % 4294967296)]) (t := 24) ?hr ?_; (case hd => rfl); (case hg => rfl); (case hr => first | (go_simp; done) | (go_simp; rfl)); intro g790 hg w791 hbox hb; clear hc789; replace HS : Aside0 (Sep (fps []) w [b5 g603 a596 a597 a598 a599 a600 a601 a602, r8 A771 x770.length n773 x770, b9 g790 0 ((a602) % 4294967296)] w791) := ⟨HS.out.box hg hbox hb⟩; clear hg hbox hb) | ((with_reducible refine gate_dst (N := 30) rfl ?_); refine append_event (l1 := [b5 g603 a596 a597 a598 a599 a600 a601 a602]) (l2 := [b9 g790 0 ((a602) % 4294967296)]) rfl (.tmp 25) (.tmp 29) 50 24 (.int .u32 0) 4 rfl Tryd.underlying50 (by kernel_rfl) rfl (by decide) (Value.int .u32) (fun _ => rfl) (.slice A771 x770.length n773) (x770 : List Int) [0, (a602) % 4294967296] ⟨g790, 0, none⟩ 2 rfl rfl (blk_news (xs := [0, (a602) % 4294967296]) (HS.out.at2)) HS.out (by have := of_decide_eq_true c793b0; simp only [List.length_cons, List.length_nil]; omega) HA798 ?_; intro A794 n795 w796 HS1; replace HS : Aside0 (Sep (fps []) w [b5 g603 a596 a597 a598 a599 a600 a601 a602, r8 A794 y797.length n795 y797, b9 g790 0 ((a602) % 4294967296)] w796) := ⟨HS1⟩; clear HS1) | ((with_reducible refine gate_dst (N := 31) rfl ?_); refine slice_on (n := 8) ?hg (N := 31) ?hd (cs := #[.int .i64 2, .int .i64 1, .int .i64 1, .int .i64 1, .int .i64 1, .int .i64 1, .int .i64 1, .int .i64 24]) (t := 3) ?hr ?_; (case hd => rfl); (case hg => rfl); (case hr => first | (go_simp; done) | (go_simp; rfl)); intro g800 hg w801 hbox hb; replace HS : Aside0 (Sep (fps []) w [b5 g603 a596 a597 a598 a599 a600 a601 a602, r8 A794 y797.length n795 y797, b9 g790 0 ((a602) % 4294967296), b10 g800 2 1 1 1 1 1 1 24] w801) := ⟨HS.out.box hg hbox hb⟩; clear hg hbox hb))
            obtain ⟨t910, HA911, H⟩ := bind_some H
            refine (pack_Join.calls _ y797 [2, 1, 1, 1, 1, 1, 1, 24] A794 n795 (some ⟨g800, 0, none⟩) 8 t910 _ ⟨Rd.ownI (l := []) HS.out 1 rfl⟩ ⟨Rd.lit (l := []) (xs := [2, 1, 1, 1, 1, 1, 1, 24]) HS.out 3 rfl (by simp)⟩ ⟨HGl0.out.pass (l := []) HS.out⟩ ⟨Sep.start _⟩ HA911).mono ?_
            rintro e_ w912 ⟨rfl, hS⟩
            replace HS : Aside0 (Sep (fps []) w [b5 g603 a596 a597 a598 a599 a600 a601 a602, r8 A794 y797.length n795 y797, b9 g790 0 ((a602) % 4294967296), b10 g800 2 1 1 1 1 1 1 24] w912) := ⟨HS.out.call hS⟩
            clear hS
            replace HS : Aside0 (Sep (fps []) w [] w912) := ⟨HS.out.sub (.cons _ (.cons _ (.cons _ (.cons _ .slnil))))⟩
            go_wp2_with fail
            go_ret2
            rw [← some_eq H]
            exact ⟨(by first | rfl | (simp [IntKind.wrap_u32]; done)), HS.out⟩
          · replace H := if_no c793 H
            have c793b0 : decide (x770.length < 35184372088831) = false := decide_eq_false c793
            clear c793
            exact (none_no H).elim
  · replace H := if_no c748 H
    have c748b0 : t745 = false := by simpa using c748
    have c748b1 : (!t745) = true := by rw [c748b0]; rfl
    try rw [c748b1]
    clear c748
    replace HS : Aside0 (Sep (fps []) w [] w747) := ⟨HS.out.sub (.cons _ .slnil)⟩
    go_wp2_with fail
    go_ret2
    rw [← some_eq H]
    exact ⟨(by first | rfl | (simp [IntKind.wrap_u32]; done)), HS.out⟩

set_option maxHeartbeats 30000000 in
set_option maxRecDepth 100000 in
theorem pack_Get.calls (a936 : Int) (a937 : Int) (a938 : Int) (r : Int) (w : World)  (HGl0 : Aside0 (Gl 0 #[.int .i64 0, .int .i64 0, .int .i64 0, .int .i64 0, .int .i64 0] (fps []) w)) (HS : Aside0 (Sep (fps []) w [] w)) (H : Aside0 (pack_Get.f a936 a937 a938 = some r)) :
    Calls Tryd.prog 30 #[.int .u32 a936, .int .i64 a937, .int .i64 a938] w fun e w' => e = .returned (.int .u32 r) ∧ Sep (fps []) w [] w' := by
  unfold pack_Get.f at H
  go_enter Tryd.func30, Tryd.ntmps30
  go_wp2_with fail
  obtain ⟨t939, HA940, H⟩ := bind_some H
  refine (pack_isPiece.calls a937 a938 t939 _ ⟨HGl0.out.pass (l := []) HS.out⟩ ⟨Sep.start _⟩ HA940).mono ?_
  rintro e_ w941 ⟨rfl, hS⟩
  replace HS : Aside0 (Sep (fps []) w [] w941) := ⟨HS.out.call hS⟩
  clear hS
  by_cases c942 : t939 = true
  · replace H := if_yes c942 H
    have c942b0 : t939 = true := c942
    have c942b1 : (!t939) = false := by rw [c942b0]; rfl
    try rw [c942b1]
    clear c942
    go_wp2_with fail
    obtain ⟨t943, HA944, H⟩ := bind_some H
    refine (pack_mask.calls a937 a938 t943 _ ⟨HGl0.out.pass (l := []) HS.out⟩ ⟨Sep.start _⟩ HA944).mono ?_
    rintro e_ w945 ⟨rfl, hS⟩
    replace HS : Aside0 (Sep (fps []) w [] w945) := ⟨HS.out.call hS⟩
    clear hS
    by_cases c946 : 0 ≤ (IntKind.u64.wrap (a937))
    · replace H := if_yes c946 H
      have c946b0 : decide (0 ≤ (IntKind.u64.wrap (a937))) = true := decide_eq_true c946
      skip
      go_wp2_with fail
      clear c946
      go_ret
      rw [← some_eq H]
      exact ⟨(by first | rfl | (simp [IntKind.wrap_u32]; done)), HS.out⟩
    · replace H := if_no c946 H
      have c946b0 : decide (0 ≤ (IntKind.u64.wrap (a937))) = false := decide_eq_false c946
      exact (none_no H).elim
  · replace H := if_no c942 H
    have c942b0 : t939 = false := by simpa using c942
    have c942b1 : (!t939) = true := by rw [c942b0]; rfl
    try rw [c942b1]
    clear c942
    go_wp2_with fail
    go_ret
    rw [← some_eq H]
    exact ⟨(by first | rfl | (simp [IntKind.wrap_u32]; done)), HS.out⟩

set_option maxHeartbeats 30000000 in
set_option maxRecDepth 100000 in
theorem pack_Ones.calls (k : Nat) (a951 : Int) (r : Int) (w : World)  (HGl0 : Aside0 (Gl 0 #[.int .i64 0, .int .i64 0, .int .i64 0, .int .i64 0, .int .i64 0] (fps []) w)) (HS : Aside0 (Sep (fps []) w [] w)) (H : Aside0 (pack_Ones.f k a951 = some r)) :
    Calls Tryd.prog 31 #[.int .u32 a951] w fun e w' => e = .returned (.int .i64 r) ∧ Sep (fps []) w [] w' := by
  unfold pack_Ones.f at H
  go_enter Tryd.func31, Tryd.ntmps31
  go_wp2_with fail
  obtain ⟨o953, AL954, H⟩ := bind_some H
  go_loopg [0, 3] k (fun kq v0 v3 wc => ∃ (x957 : Int) (x958 : Int), v0 = .int .u32 x957 ∧ v3 = .int .i64 x958 ∧ Aside0 (pack_Ones.lo0 kq x957 x958 = some o953) ∧ Aside0 (Sep (fps []) w [] wc))
  case atStart => exact ⟨(a951), (0), (by first | rfl | (simp [IntKind.wrap_u32]; done)), (by first | rfl | (simp [IntKind.wrap_u32]; done)), AL954, ⟨HS.out⟩⟩
  case round =>
    clear AL954 HS
    obtain ⟨x957, x958, rfl, rfl, AL954, HS⟩ := hrel
    obtain ⟨w955, rfl⟩ : ∃ x : World, x = wr := ⟨_, rfl⟩
    cases gk with
    | zero => exact absurd AL954.out (by simp [pack_Ones.lo0])
    | succ k956 =>
      have AL0 := AL954.out
      rw [pack_Ones.lo0] at AL0
      clear AL954
      have AL954 := Aside0.mk AL0
      clear AL0
      by_cases c959 : x957 = 0
      · replace AL954 := if_yes c959 AL954
        have c959b0 : (x957 == 0) = true := beq_iff_eq.mpr c959
        have c959b1 : (x957 != 0) = false := bne_eq_false_iff_eq.mpr c959
        clear c959
        have ho := some_eq AL954
        subst ho
        clear AL954
        go_wp2_with fail
        go_ret
        rw [← some_eq H]
        exact ⟨(by first | rfl | (simp [IntKind.wrap_u32]; done)), HS.out⟩
      · replace AL954 := if_no c959 AL954
        have c959b0 : (x957 == 0) = false := beq_eq_false_iff_ne.mpr c959
        have c959b1 : (x957 != 0) = true := bne_iff_ne.mpr c959
        clear c959
        go_wp2_with fail
        go_roundg k956
        case measure => exact Nat.lt_succ_self _
        case rel => exact ⟨(Go.bits .and .u32 x957 ((x957 - 1) % 4294967296)), (wrap64 (x958 + 1)), (by first | rfl | (simp [IntKind.wrap_u32]; done)), (by first | rfl | (simp [IntKind.wrap_u32]; done)), Aside0.mk AL954.out, ⟨HS.out⟩⟩

set_option maxHeartbeats 30000000 in
set_option maxRecDepth 100000 in
theorem shape_isWidth.calls (a976 : Int) (r : Bool) (w : World)  (HGl0 : Aside0 (Gl 0 #[.int .i64 0, .int .i64 0, .int .i64 0, .int .i64 0, .int .i64 0] (fps []) w)) (HS : Aside0 (Sep (fps []) w [] w)) (H : Aside0 (shape_isWidth.f a976 = some r)) :
    Calls Tryd.prog 36 #[.int .i64 a976] w fun e w' => e = .returned (.bool r) ∧ Sep (fps []) w [] w' := by
  unfold shape_isWidth.f at H
  go_enter Tryd.func36, Tryd.ntmps36
  by_cases c977 : a976 ≥ 16
  · replace H := if_yes c977 H
    have c977b0 : decide (16 ≤ a976) = true := decide_eq_true c977
    clear c977
    go_wp2_with fail
    go_ret
    rw [← some_eq H]
    exact ⟨(by first | rfl | (simp [IntKind.wrap_u32]; done)), HS.out⟩
  · replace H := if_no c977 H
    have c977b0 : decide (16 ≤ a976) = false := decide_eq_false c977
    clear c977
    go_wp2_with fail
    go_ret
    rw [← some_eq H]
    exact ⟨(by first | rfl | (simp [IntKind.wrap_u32]; done)), HS.out⟩

set_option maxHeartbeats 30000000 in
set_option maxRecDepth 100000 in
theorem shape_inHead.calls (a983 : Int) (r : Int) (w : World)  (HGl0 : Aside0 (Gl 0 #[.int .i64 0, .int .i64 0, .int .i64 0, .int .i64 0, .int .i64 0] (fps []) w)) (HS : Aside0 (Sep (fps []) w [] w)) (H : Aside0 (shape_inHead.f a983 = some r)) :
    Calls Tryd.prog 37 #[.int .i64 a983] w fun e w' => e = .returned (.int .i64 r) ∧ Sep (fps []) w [] w' := by
  unfold shape_inHead.f at H
  go_enter Tryd.func37, Tryd.ntmps37
  go_wp2_with fail
  go_ret
  rw [← some_eq H]
  exact ⟨(by first | rfl | (simp [IntKind.wrap_u32]; done)), HS.out⟩

set_option maxHeartbeats 30000000 in
set_option maxRecDepth 100000 in
theorem shape_inLeaf.calls (a987 : Int) (r : Int) (w : World)  (HGl0 : Aside0 (Gl 0 #[.int .i64 0, .int .i64 0, .int .i64 0, .int .i64 0, .int .i64 0] (fps []) w)) (HS : Aside0 (Sep (fps []) w [] w)) (H : Aside0 (shape_inLeaf.f a987 = some r)) :
    Calls Tryd.prog 35 #[.int .i64 a987] w fun e w' => e = .returned (.int .i64 r) ∧ Sep (fps []) w [] w' := by
  unfold shape_inLeaf.f at H
  go_enter Tryd.func35, Tryd.ntmps35
  go_wp2_with fail
  go_ret
  rw [← some_eq H]
  exact ⟨(by first | rfl | (simp [IntKind.wrap_u32]; done)), HS.out⟩

set_option maxHeartbeats 30000000 in
set_option maxRecDepth 100000 in
theorem shape_most.calls (a982 : Int) (r : Int) (w : World)  (HGl0 : Aside0 (Gl 0 #[.int .i64 0, .int .i64 0, .int .i64 0, .int .i64 0, .int .i64 0] (fps []) w)) (HS : Aside0 (Sep (fps []) w [] w)) (H : Aside0 (shape_most.f a982 = some r)) :
    Calls Tryd.prog 48 #[.int .i64 a982] w fun e w' => e = .returned (.int .i64 r) ∧ Sep (fps []) w [] w' := by
  unfold shape_most.f at H
  go_enter Tryd.func48, Tryd.ntmps48
  go_wp2_with fail
  obtain ⟨t984, HA985, H⟩ := bind_some H
  refine (shape_inHead.calls a982 t984 _ ⟨HGl0.out.pass (l := []) HS.out⟩ ⟨Sep.start _⟩ HA985).mono ?_
  rintro e_ w986 ⟨rfl, hS⟩
  replace HS : Aside0 (Sep (fps []) w [] w986) := ⟨HS.out.call hS⟩
  clear hS
  go_wp2_with fail
  obtain ⟨t988, HA989, H⟩ := bind_some H
  refine (shape_inLeaf.calls a982 t988 _ ⟨HGl0.out.pass (l := []) HS.out⟩ ⟨Sep.start _⟩ HA989).mono ?_
  rintro e_ w990 ⟨rfl, hS⟩
  replace HS : Aside0 (Sep (fps []) w [] w990) := ⟨HS.out.call hS⟩
  clear hS
  go_wp2_with fail
  go_ret
  rw [← some_eq H]
  exact ⟨(by first | rfl | (simp [IntKind.wrap_u32]; done)), HS.out⟩

set_option maxHeartbeats 30000000 in
set_option maxRecDepth 100000 in
theorem shape_wrong.calls (k : Nat) (a971 : Int) (l972 : List Int) (A973 : Option Addr) (n974 : Nat) (r : Int) (w : World) (HR975 : Aside0 (Rd (Kd.int .i64) (fps []) w A973 l972.length l972)) (HGl0 : Aside0 (Gl 0 #[.int .i64 0, .int .i64 0, .int .i64 0, .int .i64 0, .int .i64 0] (fps []) w)) (HS : Aside0 (Sep (fps []) w [] w)) (H : Aside0 (shape_wrong.f k a971 l972 = some r)) :
    Calls Tryd.prog 33 #[.int .i64 a971, .slice A973 l972.length n974] w fun e w' => e = .returned (.int .i64 r) ∧ Sep (fps []) w [] w' := by
  unfold shape_wrong.f at H
  go_enter Tryd.func33, Tryd.ntmps33
  go_wp2_with fail
  obtain ⟨t978, HA979, H⟩ := bind_some H
  refine (shape_isWidth.calls a971 t978 _ ⟨HGl0.out.pass (l := []) HS.out⟩ ⟨Sep.start _⟩ HA979).mono ?_
  rintro e_ w980 ⟨rfl, hS⟩
  replace HS : Aside0 (Sep (fps []) w [] w980) := ⟨HS.out.call hS⟩
  clear hS
  by_cases c981 : t978 = true
  · replace H := if_yes c981 H
    have c981b0 : t978 = true := c981
    have c981b1 : (!t978) = false := by rw [c981b0]; rfl
    try rw [c981b1]
    clear c981
    go_wp2_with fail
    obtain ⟨t991, HA992, H⟩ := bind_some H
    refine (shape_most.calls a971 t991 _ ⟨HGl0.out.pass (l := []) HS.out⟩ ⟨Sep.start _⟩ HA992).mono ?_
    rintro e_ w993 ⟨rfl, hS⟩
    replace HS : Aside0 (Sep (fps []) w [] w993) := ⟨HS.out.call hS⟩
    clear hS
    go_wp2_with fail
    obtain ⟨o1006, AL1007, H⟩ := bind_some H
    go_loopg [5, 15] k (fun kq v5 v15 wc => ∃ (x1010 : Int) (x1011 : Int), v5 = .int .i64 x1010 ∧ v15 = .int .i64 x1011 ∧ Aside0 (shape_wrong.lo0 kq l972 x1010 x1011 = some o1006) ∧ Aside0 (Sep (fps []) w [] wc))
    case atStart => exact ⟨(t991), (0), (by first | rfl | (simp [IntKind.wrap_u32]; done)), (by first | rfl | (simp [IntKind.wrap_u32]; done)), AL1007, ⟨HS.out⟩⟩
    case round =>
      clear AL1007 HS
      obtain ⟨x1010, x1011, rfl, rfl, AL1007, HS⟩ := hrel
      obtain ⟨w1008, rfl⟩ : ∃ x : World, x = wr := ⟨_, rfl⟩
      cases gk with
      | zero => exact absurd AL1007.out (by simp [shape_wrong.lo0])
      | succ k1009 =>
        have AL0 := AL1007.out
        rw [shape_wrong.lo0] at AL0
        clear AL1007
        have AL1007 := Aside0.mk AL0
        clear AL0
        by_cases c1012 : x1011 < (l972.length : Int)
        · replace AL1007 := if_yes c1012 AL1007
          have c1012b0 : decide (x1011 < (l972.length : Int)) = true := decide_eq_true c1012
          clear c1012
          by_cases c1013 : 0 ≤ x1011
          · replace AL1007 := if_yes c1013 AL1007
            have c1013b0 : decide (0 ≤ x1011) = true := decide_eq_true c1013
            have c1013p : (0 ≤ x1011) = True := eq_true c1013
            clear c1013
            have ip1014 : (x1011 < (l972.length : Int)) = True := eq_true (of_decide_eq_true c1012b0)
            by_cases c1016 : (rd l972 x1011) < 0
            · replace AL1007 := if_yes c1016 AL1007
              have c1016b0 : decide ((rd l972 x1011) < 0) = true := decide_eq_true c1016
              clear c1016
              obtain ⟨hx1015a, hx1015e, hx1015⟩ := Kd.at_int (Rd.read (fun _ _ _ _ h => h) HR975.out HS.out.fr) x1011 (of_decide_eq_true c1013b0) (of_decide_eq_true c1012b0); cases hx1015e
              go_wp2_with fail
              clear hx1015
              have ho := some_eq AL1007
              subst ho
              have H := lp_ret H
              go_ret
              rw [← some_eq H]
              exact ⟨(by first | rfl | (simp [IntKind.wrap_u32]; done)), HS.out⟩
            · replace AL1007 := if_no c1016 AL1007
              have c1016b0 : decide ((rd l972 x1011) < 0) = false := decide_eq_false c1016
              clear c1016
              by_cases c1017 : (rd l972 x1011) > x1010
              · replace AL1007 := if_yes c1017 AL1007
                have c1017b0 : decide (x1010 < (rd l972 x1011)) = true := decide_eq_true c1017
                clear c1017
                obtain ⟨hx1015a, hx1015e, hx1015⟩ := Kd.at_int (Rd.read (fun _ _ _ _ h => h) HR975.out HS.out.fr) x1011 (of_decide_eq_true c1013b0) (of_decide_eq_true c1012b0); cases hx1015e
                go_wp2_with fail
                clear hx1015
                have ho := some_eq AL1007
                subst ho
                have H := lp_ret H
                go_ret
                rw [← some_eq H]
                exact ⟨(by first | rfl | (simp [IntKind.wrap_u32]; done)), HS.out⟩
              · replace AL1007 := if_no c1017 AL1007
                have c1017b0 : decide (x1010 < (rd l972 x1011)) = false := decide_eq_false c1017
                clear c1017
                obtain ⟨hx1015a, hx1015e, hx1015⟩ := Kd.at_int (Rd.read (fun _ _ _ _ h => h) HR975.out HS.out.fr) x1011 (of_decide_eq_true c1013b0) (of_decide_eq_true c1012b0); cases hx1015e
                go_wp2_with fail
                clear hx1015
                go_roundg k1009
                case measure => exact Nat.lt_succ_self _
                case rel => exact ⟨(wrap64 (x1010 - (rd l972 x1011))), (wrap64 (x1011 + 1)), (by first | rfl | (simp [IntKind.wrap_u32]; done)), (by first | rfl | (simp [IntKind.wrap_u32]; done)), Aside0.mk AL1007.out, ⟨HS.out⟩⟩
          · replace AL1007 := if_no c1013 AL1007
            have c1013b0 : decide (0 ≤ x1011) = false := decide_eq_false c1013
            clear c1013
            exact (none_no AL1007).elim
        · replace AL1007 := if_no c1012 AL1007
          have c1012b0 : decide (x1011 < (l972.length : Int)) = false := decide_eq_false c1012
          clear c1012
          have ho := some_eq AL1007
          subst ho
          clear AL1007
          have H := lp_out H
          go_wp2_with fail
          go_ret
          rw [← some_eq H]
          exact ⟨(by first | rfl | (simp [IntKind.wrap_u32]; done)), HS.out⟩
  · replace H := if_no c981 H
    have c981b0 : t978 = false := by simpa using c981
    have c981b1 : (!t978) = true := by rw [c981b0]; rfl
    try rw [c981b1]
    clear c981
    go_wp2_with fail
    go_ret
    rw [← some_eq H]
    exact ⟨(by first | rfl | (simp [IntKind.wrap_u32]; done)), HS.out⟩

set_option maxHeartbeats 30000000 in
set_option maxRecDepth 100000 in
theorem shape_leaves.calls (a1024 : Int) (a1025 : Int) (r : Int) (w : World)  (HGl0 : Aside0 (Gl 0 #[.int .i64 0, .int .i64 0, .int .i64 0, .int .i64 0, .int .i64 0] (fps []) w)) (HS : Aside0 (Sep (fps []) w [] w)) (H : Aside0 (shape_leaves.f a1024 a1025 = some r)) :
    Calls Tryd.prog 34 #[.int .i64 a1024, .int .i64 a1025] w fun e w' => e = .returned (.int .i64 r) ∧ Sep (fps []) w [] w' := by
  unfold shape_leaves.f at H
  go_enter Tryd.func34, Tryd.ntmps34
  go_wp2_with fail
  obtain ⟨t1026, HA1027, H⟩ := bind_some H
  refine (shape_inHead.calls a1024 t1026 _ ⟨HGl0.out.pass (l := []) HS.out⟩ ⟨Sep.start _⟩ HA1027).mono ?_
  rintro e_ w1028 ⟨rfl, hS⟩
  replace HS : Aside0 (Sep (fps []) w [] w1028) := ⟨HS.out.call hS⟩
  clear hS
  by_cases c1029 : a1025 ≤ t1026
  · replace H := if_yes c1029 H
    have c1029b0 : decide (a1025 ≤ t1026) = true := decide_eq_true c1029
    clear c1029
    go_wp2_with fail
    go_ret
    rw [← some_eq H]
    exact ⟨(by first | rfl | (simp [IntKind.wrap_u32]; done)), HS.out⟩
  · replace H := if_no c1029 H
    have c1029b0 : decide (a1025 ≤ t1026) = false := decide_eq_false c1029
    clear c1029
    go_wp2_with fail
    obtain ⟨t1030, HA1031, H⟩ := bind_some H
    refine (shape_inLeaf.calls a1024 t1030 _ ⟨HGl0.out.pass (l := []) HS.out⟩ ⟨Sep.start _⟩ HA1031).mono ?_
    rintro e_ w1032 ⟨rfl, hS⟩
    replace HS : Aside0 (Sep (fps []) w [] w1032) := ⟨HS.out.call hS⟩
    clear hS
    go_wp2_with fail
    obtain ⟨t1033, HA1034, H⟩ := bind_some H
    refine (ratio_Up.calls a1025 t1030 t1033 _ ⟨HGl0.out.pass (l := []) HS.out⟩ ⟨Sep.start _⟩ HA1034).mono ?_
    rintro e_ w1035 ⟨rfl, hS⟩
    replace HS : Aside0 (Sep (fps []) w [] w1035) := ⟨HS.out.call hS⟩
    clear hS
    go_wp2_with fail
    go_ret
    rw [← some_eq H]
    exact ⟨(by first | rfl | (simp [IntKind.wrap_u32]; done)), HS.out⟩

set_option maxHeartbeats 30000000 in
set_option maxRecDepth 100000 in
theorem shape_Full.calls (k : Nat) (a965 : Int) (a966 : Int) (a967 : Int) (r : Int) (w : World)  (HGl0 : Aside0 (Gl 0 #[.int .i64 0, .int .i64 0, .int .i64 0, .int .i64 0, .int .i64 0] (fps []) w)) (HS : Aside0 (Sep (fps []) w [] w)) (H : Aside0 (shape_Full.f k a965 a966 a967 = some r)) :
    Calls Tryd.prog 32 #[.int .i64 a965, .int .i64 a966, .int .i64 a967] w fun e w' => e = .returned (.int .i64 r) ∧ Sep (fps []) w [] w' := by
  unfold shape_Full.f at H
  go_enter Tryd.func32, Tryd.ntmps32
  go_wp2_with (first | ((with_reducible refine gate_dst (N := 10) rfl ?_); refine slice_on (n := 1) ?hg (N := 10) ?hd (cs := #[.int .i64 a966]) (t := 3) ?hr ?_; (case hd => rfl); (case hg => rfl); (case hr => first | (go_simp; done) | (go_simp; rfl)); intro g968 hg w969 hbox hb; replace HS : Aside0 (Sep (fps []) w [b11 g968 a966] w969) := ⟨HS.out.box hg hbox hb⟩; clear hg hbox hb))
  obtain ⟨t1019, HA1020, H⟩ := bind_some H
  refine (shape_wrong.calls _ a965 [a966] (some ⟨g968, 0, none⟩) 1 t1019 _ ⟨Rd.lit (l := []) (xs := [a966]) HS.out 0 rfl (by simp)⟩ ⟨HGl0.out.pass (l := []) HS.out⟩ ⟨Sep.start _⟩ HA1020).mono ?_
  rintro e_ w1021 ⟨rfl, hS⟩
  replace HS : Aside0 (Sep (fps []) w [b11 g968 a966] w1021) := ⟨HS.out.call hS⟩
  clear hS
  by_cases c1022 : t1019 = 0
  · replace H := if_yes c1022 H
    have c1022b0 : (t1019 == 0) = true := beq_iff_eq.mpr c1022
    have c1022b1 : (t1019 != 0) = false := bne_eq_false_iff_eq.mpr c1022
    clear c1022
    by_cases c1023 : a967 < (-1)
    · replace H := if_yes c1023 H
      have c1023b0 : decide (a967 < (-1)) = true := decide_eq_true c1023
      clear c1023
      replace HS : Aside0 (Sep (fps []) w [] w1021) := ⟨HS.out.sub (.cons _ .slnil)⟩
      go_wp2_with fail
      go_ret
      rw [← some_eq H]
      exact ⟨(by first | rfl | (simp [IntKind.wrap_u32]; done)), HS.out⟩
    · replace H := if_no c1023 H
      have c1023b0 : decide (a967 < (-1)) = false := decide_eq_false c1023
      clear c1023
      replace HS : Aside0 (Sep (fps []) w [] w1021) := ⟨HS.out.sub (.cons _ .slnil)⟩
      go_wp2_with fail
      obtain ⟨t1036, HA1037, H⟩ := bind_some H
      refine (shape_leaves.calls a965 a966 t1036 _ ⟨HGl0.out.pass (l := []) HS.out⟩ ⟨Sep.start _⟩ HA1037).mono ?_
      rintro e_ w1038 ⟨rfl, hS⟩
      replace HS : Aside0 (Sep (fps []) w [] w1038) := ⟨HS.out.call hS⟩
      clear hS
      by_cases c1039 : a967 = (-1)
      · replace H := if_yes c1039 H
        have c1039b0 : (a967 == (-1)) = true := beq_iff_eq.mpr c1039
        have c1039b1 : (a967 != (-1)) = false := bne_eq_false_iff_eq.mpr c1039
        clear c1039
        by_cases c1040 : t1036 = 0
        · replace H := if_yes c1040 H
          have c1040b0 : (t1036 == 0) = true := beq_iff_eq.mpr c1040
          have c1040b1 : (t1036 != 0) = false := bne_eq_false_iff_eq.mpr c1040
          clear c1040
          go_wp2_with fail
          go_ret
          rw [← some_eq H]
          exact ⟨(by first | rfl | (simp [IntKind.wrap_u32]; done)), HS.out⟩
        · replace H := if_no c1040 H
          have c1040b0 : (t1036 == 0) = false := beq_eq_false_iff_ne.mpr c1040
          have c1040b1 : (t1036 != 0) = true := bne_iff_ne.mpr c1040
          clear c1040
          go_wp2_with fail
          go_ret
          rw [← some_eq H]
          exact ⟨(by first | rfl | (simp [IntKind.wrap_u32]; done)), HS.out⟩
      · replace H := if_no c1039 H
        have c1039b0 : (a967 == (-1)) = false := beq_eq_false_iff_ne.mpr c1039
        have c1039b1 : (a967 != (-1)) = true := bne_iff_ne.mpr c1039
        clear c1039
        by_cases c1041 : a967 ≥ t1036
        · replace H := if_yes c1041 H
          have c1041b0 : decide (t1036 ≤ a967) = true := decide_eq_true c1041
          clear c1041
          go_wp2_with fail
          go_ret
          rw [← some_eq H]
          exact ⟨(by first | rfl | (simp [IntKind.wrap_u32]; done)), HS.out⟩
        · replace H := if_no c1041 H
          have c1041b0 : decide (t1036 ≤ a967) = false := decide_eq_false c1041
          clear c1041
          go_wp2_with fail
          obtain ⟨t1042, HA1043, H⟩ := bind_some H
          refine (shape_inLeaf.calls a965 t1042 _ ⟨HGl0.out.pass (l := []) HS.out⟩ ⟨Sep.start _⟩ HA1043).mono ?_
          rintro e_ w1044 ⟨rfl, hS⟩
          replace HS : Aside0 (Sep (fps []) w [] w1044) := ⟨HS.out.call hS⟩
          clear hS
          go_wp2_with fail
          obtain ⟨t1045, HA1046, H⟩ := bind_some H
          refine (shape_inLeaf.calls a965 t1045 _ ⟨HGl0.out.pass (l := []) HS.out⟩ ⟨Sep.start _⟩ HA1046).mono ?_
          rintro e_ w1047 ⟨rfl, hS⟩
          replace HS : Aside0 (Sep (fps []) w [] w1047) := ⟨HS.out.call hS⟩
          clear hS
          by_cases c1048 : (wrap64 (a966 - (wrap64 (a967 * t1045)))) < t1042
          · replace H := if_yes c1048 H
            have c1048b0 : decide ((wrap64 (a966 - (wrap64 (a967 * t1045)))) < t1042) = true := decide_eq_true c1048
            skip
            go_wp2_with fail
            clear c1048
            go_ret
            rw [← some_eq H]
            exact ⟨(by first | rfl | (simp [IntKind.wrap_u32]; done)), HS.out⟩
          · replace H := if_no c1048 H
            have c1048b0 : decide ((wrap64 (a966 - (wrap64 (a967 * t1045)))) < t1042) = false := decide_eq_false c1048
            skip
            go_wp2_with fail
            clear c1048
            go_ret
            rw [← some_eq H]
            exact ⟨(by first | rfl | (simp [IntKind.wrap_u32]; done)), HS.out⟩
  · replace H := if_no c1022 H
    have c1022b0 : (t1019 == 0) = false := beq_eq_false_iff_ne.mpr c1022
    have c1022b1 : (t1019 != 0) = true := bne_iff_ne.mpr c1022
    clear c1022
    replace HS : Aside0 (Sep (fps []) w [] w1021) := ⟨HS.out.sub (.cons _ .slnil)⟩
    go_wp2_with fail
    go_ret
    rw [← some_eq H]
    exact ⟨(by first | rfl | (simp [IntKind.wrap_u32]; done)), HS.out⟩

set_option maxHeartbeats 30000000 in
set_option maxRecDepth 100000 in
theorem quitrenttop_awakeShape.calls (k : Nat)  (r : Bool) (w : World)  (HGl0 : Aside0 (Gl 0 #[.int .i64 0, .int .i64 0, .int .i64 0, .int .i64 0, .int .i64 0] (fps []) w)) (HS : Aside0 (Sep (fps []) w [] w)) (H : Aside0 (quitrenttop_awakeShape.f k = some r)) :
    Calls Tryd.prog 17 #[] w fun e w' => e = .returned (.bool r) ∧ Sep (fps []) w [] w' := by
  unfold quitrenttop_awakeShape.f at H
  go_enter Tryd.func17, Tryd.ntmps17
  go_wp2_with fail
  obtain ⟨t932, HA933, H⟩ := bind_some H
  refine (tag_Pack.calls _ 2 0 0 0 1 0 0 t932 _ ⟨HGl0.out.pass (l := []) HS.out⟩ ⟨Sep.start _⟩ HA933).mono ?_
  rintro e_ w934 ⟨rfl, hS⟩
  replace HS : Aside0 (Sep (fps []) w [] w934) := ⟨HS.out.call hS⟩
  clear hS
  by_cases c935 : t932.2 = 0
  · replace H := if_yes c935 H
    have c935b0 : (t932.2 == 0) = true := beq_iff_eq.mpr c935
    have c935b1 : (t932.2 != 0) = false := bne_eq_false_iff_eq.mpr c935
    clear c935
    go_wp2_with fail
    obtain ⟨t947, HA948, H⟩ := bind_some H
    refine (pack_Get.calls t932.1 0 2 t947 _ ⟨HGl0.out.pass (l := []) HS.out⟩ ⟨Sep.start _⟩ HA948).mono ?_
    rintro e_ w949 ⟨rfl, hS⟩
    replace HS : Aside0 (Sep (fps []) w [] w949) := ⟨HS.out.call hS⟩
    clear hS
    by_cases c950 : t947 = 2
    · replace H := if_yes c950 H
      have c950b0 : (t947 == 2) = true := beq_iff_eq.mpr c950
      have c950b1 : (t947 != 2) = false := bne_eq_false_iff_eq.mpr c950
      clear c950
      go_wp2_with fail
      obtain ⟨t961, HA962, H⟩ := bind_some H
      refine (pack_Ones.calls _ t932.1 t961 _ ⟨HGl0.out.pass (l := []) HS.out⟩ ⟨Sep.start _⟩ HA962).mono ?_
      rintro e_ w963 ⟨rfl, hS⟩
      replace HS : Aside0 (Sep (fps []) w [] w963) := ⟨HS.out.call hS⟩
      clear hS
      by_cases c964 : t961 = 2
      · replace H := if_yes c964 H
        have c964b0 : (t961 == 2) = true := beq_iff_eq.mpr c964
        have c964b1 : (t961 != 2) = false := bne_eq_false_iff_eq.mpr c964
        clear c964
        go_wp2_with fail
        obtain ⟨t1049, HA1050, H⟩ := bind_some H
        refine (shape_Full.calls _ 16 9 0 t1049 _ ⟨HGl0.out.pass (l := []) HS.out⟩ ⟨Sep.start _⟩ HA1050).mono ?_
        rintro e_ w1051 ⟨rfl, hS⟩
        replace HS : Aside0 (Sep (fps []) w [] w1051) := ⟨HS.out.call hS⟩
        clear hS
        go_wp2_with fail
        go_ret
        rw [← some_eq H]
        exact ⟨(by first | rfl | (simp [IntKind.wrap_u32]; done)), HS.out⟩
      · replace H := if_no c964 H
        have c964b0 : (t961 == 2) = false := beq_eq_false_iff_ne.mpr c964
        have c964b1 : (t961 != 2) = true := bne_iff_ne.mpr c964
        clear c964
        go_wp2_with fail
        go_ret
        rw [← some_eq H]
        exact ⟨(by first | rfl | (simp [IntKind.wrap_u32]; done)), HS.out⟩
    · replace H := if_no c950 H
      have c950b0 : (t947 == 2) = false := beq_eq_false_iff_ne.mpr c950
      have c950b1 : (t947 != 2) = true := bne_iff_ne.mpr c950
      clear c950
      go_wp2_with fail
      go_ret
      rw [← some_eq H]
      exact ⟨(by first | rfl | (simp [IntKind.wrap_u32]; done)), HS.out⟩
  · replace H := if_no c935 H
    have c935b0 : (t932.2 == 0) = false := beq_eq_false_iff_ne.mpr c935
    have c935b1 : (t932.2 != 0) = true := bne_iff_ne.mpr c935
    clear c935
    go_wp2_with fail
    go_ret
    rw [← some_eq H]
    exact ⟨(by first | rfl | (simp [IntKind.wrap_u32]; done)), HS.out⟩

set_option maxHeartbeats 30000000 in
set_option maxRecDepth 100000 in
theorem shape_Blocks.calls (k : Nat) (a1059 : Int) (a1060 : Int) (a1061 : Int) (r : Int × Int) (w : World)  (HGl0 : Aside0 (Gl 0 #[.int .i64 0, .int .i64 0, .int .i64 0, .int .i64 0, .int .i64 0] (fps []) w)) (HS : Aside0 (Sep (fps []) w [] w)) (H : Aside0 (shape_Blocks.f k a1059 a1060 a1061 = some r)) :
    Calls Tryd.prog 18 #[.int .i64 a1059, .int .i64 a1060, .int .i64 a1061] w fun e w' => e = .returned (.tuple #[.int .i64 r.1, .int .i64 r.2]) ∧ Sep (fps []) w [] w' := by
  unfold shape_Blocks.f at H
  go_enter Tryd.func18, Tryd.ntmps18
  go_wp2_with (first | ((with_reducible refine gate_dst (N := 12) rfl ?_); refine slice_on (n := 2) ?hg (N := 12) ?hd (cs := #[.int .i64 a1060, .int .i64 a1061]) (t := 3) ?hr ?_; (case hd => rfl); (case hg => rfl); (case hr => first | (go_simp; done) | (go_simp; rfl)); intro g1062 hg w1063 hbox hb; replace HS : Aside0 (Sep (fps []) w [b3 g1062 a1060 a1061] w1063) := ⟨HS.out.box hg hbox hb⟩; clear hg hbox hb))
  obtain ⟨t1065, HA1066, H⟩ := bind_some H
  refine (shape_wrong.calls _ a1059 [a1060, a1061] (some ⟨g1062, 0, none⟩) 2 t1065 _ ⟨Rd.lit (l := []) (xs := [a1060, a1061]) HS.out 0 rfl (by simp)⟩ ⟨HGl0.out.pass (l := []) HS.out⟩ ⟨Sep.start _⟩ HA1066).mono ?_
  rintro e_ w1067 ⟨rfl, hS⟩
  replace HS : Aside0 (Sep (fps []) w [b3 g1062 a1060 a1061] w1067) := ⟨HS.out.call hS⟩
  clear hS
  by_cases c1068 : t1065 = 0
  · replace H := if_yes c1068 H
    have c1068b0 : (t1065 == 0) = true := beq_iff_eq.mpr c1068
    have c1068b1 : (t1065 != 0) = false := bne_eq_false_iff_eq.mpr c1068
    clear c1068
    replace HS : Aside0 (Sep (fps []) w [] w1067) := ⟨HS.out.sub (.cons _ .slnil)⟩
    go_wp2_with fail
    obtain ⟨t1069, HA1070, H⟩ := bind_some H
    refine (shape_leaves.calls a1059 (wrap64 (a1060 + a1061)) t1069 _ ⟨HGl0.out.pass (l := []) HS.out⟩ ⟨Sep.start _⟩ HA1070).mono ?_
    rintro e_ w1071 ⟨rfl, hS⟩
    replace HS : Aside0 (Sep (fps []) w [] w1071) := ⟨HS.out.call hS⟩
    clear hS
    go_wp2_with fail
    go_ret2
    rw [← some_eq H]
    exact ⟨(by first | rfl | (simp [IntKind.wrap_u32]; done)), HS.out⟩
  · replace H := if_no c1068 H
    have c1068b0 : (t1065 == 0) = false := beq_eq_false_iff_ne.mpr c1068
    have c1068b1 : (t1065 != 0) = true := bne_iff_ne.mpr c1068
    clear c1068
    replace HS : Aside0 (Sep (fps []) w [] w1067) := ⟨HS.out.sub (.cons _ .slnil)⟩
    go_wp2_with fail
    go_ret2
    rw [← some_eq H]
    exact ⟨(by first | rfl | (simp [IntKind.wrap_u32]; done)), HS.out⟩

set_option maxHeartbeats 30000000 in
set_option maxRecDepth 100000 in
theorem shape_Place.calls (k : Nat) (a1082 : Int) (a1083 : Int) (a1084 : Int) (r : Int × Int × Int) (w : World)  (HGl0 : Aside0 (Gl 0 #[.int .i64 0, .int .i64 0, .int .i64 0, .int .i64 0, .int .i64 0] (fps []) w)) (HS : Aside0 (Sep (fps []) w [] w)) (H : Aside0 (shape_Place.f k a1082 a1083 a1084 = some r)) :
    Calls Tryd.prog 19 #[.int .i64 a1082, .int .i64 a1083, .int .i64 a1084] w fun e w' => e = .returned (.tuple #[.int .i64 r.1, .int .i64 r.2.1, .int .i64 r.2.2]) ∧ Sep (fps []) w [] w' := by
  unfold shape_Place.f at H
  go_enter Tryd.func19, Tryd.ntmps19
  go_wp2_with (first | ((with_reducible refine gate_dst (N := 12) rfl ?_); refine slice_on (n := 1) ?hg (N := 12) ?hd (cs := #[.int .i64 a1083]) (t := 3) ?hr ?_; (case hd => rfl); (case hg => rfl); (case hr => first | (go_simp; done) | (go_simp; rfl)); intro g1085 hg w1086 hbox hb; replace HS : Aside0 (Sep (fps []) w [b11 g1085 a1083] w1086) := ⟨HS.out.box hg hbox hb⟩; clear hg hbox hb))
  obtain ⟨t1088, HA1089, H⟩ := bind_some H
  refine (shape_wrong.calls _ a1082 [a1083] (some ⟨g1085, 0, none⟩) 1 t1088 _ ⟨Rd.lit (l := []) (xs := [a1083]) HS.out 0 rfl (by simp)⟩ ⟨HGl0.out.pass (l := []) HS.out⟩ ⟨Sep.start _⟩ HA1089).mono ?_
  rintro e_ w1090 ⟨rfl, hS⟩
  replace HS : Aside0 (Sep (fps []) w [b11 g1085 a1083] w1090) := ⟨HS.out.call hS⟩
  clear hS
  by_cases c1091 : t1088 = 0
  · replace H := if_yes c1091 H
    have c1091b0 : (t1088 == 0) = true := beq_iff_eq.mpr c1091
    have c1091b1 : (t1088 != 0) = false := bne_eq_false_iff_eq.mpr c1091
    clear c1091
    by_cases c1092 : a1084 < 0
    · replace H := if_yes c1092 H
      have c1092b0 : decide (a1084 < 0) = true := decide_eq_true c1092
      clear c1092
      replace HS : Aside0 (Sep (fps []) w [] w1090) := ⟨HS.out.sub (.cons _ .slnil)⟩
      go_wp2_with fail
      go_ret3
      rw [← some_eq H]
      exact ⟨(by first | rfl | (simp [IntKind.wrap_u32]; done)), HS.out⟩
    · replace H := if_no c1092 H
      have c1092b0 : decide (a1084 < 0) = false := decide_eq_false c1092
      clear c1092
      by_cases c1093 : a1084 ≥ a1083
      · replace H := if_yes c1093 H
        have c1093b0 : decide (a1083 ≤ a1084) = true := decide_eq_true c1093
        clear c1093
        replace HS : Aside0 (Sep (fps []) w [] w1090) := ⟨HS.out.sub (.cons _ .slnil)⟩
        go_wp2_with fail
        go_ret3
        rw [← some_eq H]
        exact ⟨(by first | rfl | (simp [IntKind.wrap_u32]; done)), HS.out⟩
      · replace H := if_no c1093 H
        have c1093b0 : decide (a1083 ≤ a1084) = false := decide_eq_false c1093
        clear c1093
        replace HS : Aside0 (Sep (fps []) w [] w1090) := ⟨HS.out.sub (.cons _ .slnil)⟩
        go_wp2_with fail
        obtain ⟨t1094, HA1095, H⟩ := bind_some H
        refine (shape_leaves.calls a1082 a1083 t1094 _ ⟨HGl0.out.pass (l := []) HS.out⟩ ⟨Sep.start _⟩ HA1095).mono ?_
        rintro e_ w1096 ⟨rfl, hS⟩
        replace HS : Aside0 (Sep (fps []) w [] w1096) := ⟨HS.out.call hS⟩
        clear hS
        by_cases c1097 : t1094 = 0
        · replace H := if_yes c1097 H
          have c1097b0 : (t1094 == 0) = true := beq_iff_eq.mpr c1097
          have c1097b1 : (t1094 != 0) = false := bne_eq_false_iff_eq.mpr c1097
          clear c1097
          go_wp2_with fail
          go_ret3
          rw [← some_eq H]
          exact ⟨(by first | rfl | (simp [IntKind.wrap_u32]; done)), HS.out⟩
        · replace H := if_no c1097 H
          have c1097b0 : (t1094 == 0) = false := beq_eq_false_iff_ne.mpr c1097
          have c1097b1 : (t1094 != 0) = true := bne_iff_ne.mpr c1097
          clear c1097
          go_wp2_with fail
          refine start_ (n := 12) (S := (fun _ => True)) (ds := []) #[false, false, false, false, false, false, false, false, false, false, false, false] (by kernel_rfl) rfl rfl (trivial) (fun hHeld => ?_)
          have HS_ := Aside0.mk HS.out.drew
          clear HS
          generalize World.drew _ = w1099 at HS_ hHeld ⊢
          have HS := HS_
          clear HS_
          refine pure_ (i := 0) (N := some 32) (v := ?_) (a' := ?_) #[true, false, false, false, false, false, false, false, false, false, false, false] rfl rfl (by kernel_rfl) (fun _ _ _ h => h) (Or.inl ⟨by rfl, ?_⟩) ?_ ?_
          rotate_left
          · intro w'
            go_simp
            with_reducible rfl
          rotate_left
          · simp only [Act.put, List.setIfInBounds_toArray, List.set_cons_zero, List.set_cons_succ, i64_w, i32_w]
            rfl
          refine pure_ (i := 1) (N := some 33) (v := ?_) (a' := ?_) #[true, true, false, false, false, false, false, false, false, false, false, false] rfl rfl (by kernel_rfl) (fun _ _ _ h => h) (Or.inl ⟨by rfl, ?_⟩) ?_ ?_
          rotate_left
          · intro w'
            go_simp
            with_reducible rfl
          rotate_left
          · simp only [Act.put, List.setIfInBounds_toArray, List.set_cons_zero, List.set_cons_succ, i64_w, i32_w]
            rfl
          refine pure_ (i := 4) (N := some 36) (v := ?_) (a' := ?_) #[true, true, false, false, true, false, false, false, false, false, false, false] rfl rfl (by kernel_rfl) (fun _ _ _ h => h) (Or.inl ⟨by rfl, ?_⟩) ?_ ?_
          rotate_left
          · intro w'
            go_simp
            with_reducible rfl
          rotate_left
          · simp only [Act.put, List.setIfInBounds_toArray, List.set_cons_zero, List.set_cons_succ, i64_w, i32_w]
            rfl
          refine pure_ (i := 5) (N := some 37) (v := ?_) (a' := ?_) #[true, true, false, false, true, true, false, false, false, false, false, false] rfl rfl (by kernel_rfl) (fun _ _ _ h => h) (Or.inl ⟨by rfl, ?_⟩) ?_ ?_
          rotate_left
          · intro w'
            go_simp
            with_reducible rfl
          rotate_left
          · simp only [Act.put, List.setIfInBounds_toArray, List.set_cons_zero, List.set_cons_succ, i64_w, i32_w]
            rfl
          refine one_ (i := 2) (N := some 34) #[true, true, true, false, true, true, false, false, false, false, false, false] rfl rfl (by kernel_rfl) (by decide) (fun K hK => ?_)
          obtain ⟨t1100, HA1101, H⟩ := bind_some H
          refine goes_ Tryd.func35 (by kernel_rfl) rfl #[.int .i64 a1082] (by rfl) rfl rfl (by (try simp only [List.map_toArray, List.map_cons, List.map_nil]); first | done | rfl) ?_
          refine (shape_inLeaf.calls a1082 t1100 _ ⟨HGl0.out.pass (l := []) HS.out⟩ ⟨Sep.start _⟩ HA1101).mono ?_
          rintro e_ w1102 ⟨rfl, hS⟩
          replace HS : Aside0 (Sep (fps []) w [] w1102) := ⟨HS.out.call hS⟩
          clear hS
          refine ⟨_, rfl, ?_⟩
          refine hK.out _ _ (trivial) (fun hHeld => ?_)
          clear hK K
          refine norm_ (a' := ?_) ?_ ?_
          rotate_left
          · show Act.put _ (some 34) _ = _
            simp only [Act.put, List.setIfInBounds_toArray, List.set_cons_zero, List.set_cons_succ, i64_w, i32_w]
            rfl
          by_cases c1103 : t1100 = 0
          · replace H := if_yes c1103 H
            have c1103b0 : (t1100 == 0) = true := beq_iff_eq.mpr c1103
            have c1103b1 : (t1100 != 0) = false := bne_eq_false_iff_eq.mpr c1103
            exact (none_no H).elim
          · replace H := if_no c1103 H
            have c1103b0 : (t1100 == 0) = false := beq_eq_false_iff_ne.mpr c1103
            have c1103b1 : (t1100 != 0) = true := bne_iff_ne.mpr c1103
            refine pure_ (i := 3) (N := some 35) (v := ?_) (a' := ?_) #[true, true, true, true, true, true, false, false, false, false, false, false] rfl rfl (by kernel_rfl) (fun _ _ _ h => h) (Or.inl ⟨by rfl, ?_⟩) ?_ ?_
            rotate_left
            · intro w'
              go_simp
              with_reducible rfl
            rotate_left
            · simp only [Act.put, List.setIfInBounds_toArray, List.set_cons_zero, List.set_cons_succ, i64_w, i32_w]
              rfl
            refine one_ (i := 6) (N := some 38) #[true, true, true, true, true, true, true, false, false, false, false, false] rfl rfl (by kernel_rfl) (by decide) (fun K hK => ?_)
            obtain ⟨t1104, HA1105, H⟩ := bind_some H
            refine goes_ Tryd.func35 (by kernel_rfl) rfl #[.int .i64 a1082] (by rfl) rfl rfl (by (try simp only [List.map_toArray, List.map_cons, List.map_nil]); first | done | rfl) ?_
            refine (shape_inLeaf.calls a1082 t1104 _ ⟨HGl0.out.pass (l := []) HS.out⟩ ⟨Sep.start _⟩ HA1105).mono ?_
            rintro e_ w1106 ⟨rfl, hS⟩
            replace HS : Aside0 (Sep (fps []) w [] w1106) := ⟨HS.out.call hS⟩
            clear hS
            refine ⟨_, rfl, ?_⟩
            refine hK.out _ _ (trivial) (fun hHeld => ?_)
            clear hK K
            refine norm_ (a' := ?_) ?_ ?_
            rotate_left
            · show Act.put _ (some 38) _ = _
              simp only [Act.put, List.setIfInBounds_toArray, List.set_cons_zero, List.set_cons_succ, i64_w, i32_w]
              rfl
            by_cases c1107 : t1104 = 0
            · replace H := if_yes c1107 H
              have c1107b0 : (t1104 == 0) = true := beq_iff_eq.mpr c1107
              have c1107b1 : (t1104 != 0) = false := bne_eq_false_iff_eq.mpr c1107
              exact (none_no H).elim
            · replace H := if_no c1107 H
              have c1107b0 : (t1104 == 0) = false := beq_eq_false_iff_ne.mpr c1107
              have c1107b1 : (t1104 != 0) = true := bne_iff_ne.mpr c1107
              refine pure_ (i := 7) (N := some 39) (v := ?_) (a' := ?_) #[true, true, true, true, true, true, true, true, false, false, false, false] rfl rfl (by kernel_rfl) (fun _ _ _ h => h) (Or.inl ⟨by rfl, ?_⟩) ?_ ?_
              rotate_left
              · intro w'
                go_simp
                with_reducible rfl
              rotate_left
              · simp only [Act.put, List.setIfInBounds_toArray, List.set_cons_zero, List.set_cons_succ, i64_w, i32_w]
                rfl
              refine pure_ (i := 8) (N := some 40) (v := ?_) (a' := ?_) #[true, true, true, true, true, true, true, true, true, false, false, false] rfl rfl (by kernel_rfl) (fun _ _ _ h => h) (Or.inl ⟨by rfl, ?_⟩) ?_ ?_
              rotate_left
              · intro w'
                go_simp
                with_reducible rfl
              rotate_left
              · simp only [Act.put, List.setIfInBounds_toArray, List.set_cons_zero, List.set_cons_succ, i64_w, i32_w]
                rfl
              refine pure_ (i := 9) (N := some 6) (v := ?_) (a' := ?_) #[true, true, true, true, true, true, true, true, true, true, false, false] rfl rfl (by kernel_rfl) (fun _ _ _ h => h) (Or.inl ⟨by rfl, ?_⟩) ?_ ?_
              rotate_left
              · intro w'
                go_simp
                with_reducible rfl
              rotate_left
              · simp only [Act.put, List.setIfInBounds_toArray, List.set_cons_zero, List.set_cons_succ, i64_w, i32_w]
                rfl
              refine pure_ (i := 10) (N := some 7) (v := ?_) (a' := ?_) #[true, true, true, true, true, true, true, true, true, true, true, false] rfl rfl (by kernel_rfl) (fun _ _ _ h => h) (Or.inl ⟨by rfl, ?_⟩) ?_ ?_
              rotate_left
              · intro w'
                go_simp
                with_reducible rfl
              rotate_left
              · simp only [Act.put, List.setIfInBounds_toArray, List.set_cons_zero, List.set_cons_succ, i64_w, i32_w]
                rfl
              refine pure_ (i := 11) (N := some 8) (v := ?_) (a' := ?_) #[true, true, true, true, true, true, true, true, true, true, true, true] rfl rfl (by kernel_rfl) (fun _ _ _ h => h) (Or.inl ⟨by rfl, ?_⟩) ?_ ?_
              rotate_left
              · intro w'
                go_simp
                with_reducible rfl
              rotate_left
              · simp only [Act.put, List.setIfInBounds_toArray, List.set_cons_zero, List.set_cons_succ, i64_w, i32_w]
                rfl
              refine done_ (by kernel_rfl) ?_
              skip
              skip
              go_wp2_with fail
              clear c1103 c1107
              go_ret3
              rw [← some_eq H]
              exact ⟨(by first | rfl | (simp [IntKind.wrap_u32]; done)), HS.out⟩
  · replace H := if_no c1091 H
    have c1091b0 : (t1088 == 0) = false := beq_eq_false_iff_ne.mpr c1091
    have c1091b1 : (t1088 != 0) = true := bne_iff_ne.mpr c1091
    clear c1091
    replace HS : Aside0 (Sep (fps []) w [] w1090) := ⟨HS.out.sub (.cons _ .slnil)⟩
    go_wp2_with fail
    go_ret3
    rw [← some_eq H]
    exact ⟨(by first | rfl | (simp [IntKind.wrap_u32]; done)), HS.out⟩

set_option maxHeartbeats 30000000 in
set_option maxRecDepth 100000 in
theorem shape_Largest.calls (a1119 : Int) (a1120 : Int) (r : Int) (w : World)  (HGl0 : Aside0 (Gl 0 #[.int .i64 0, .int .i64 0, .int .i64 0, .int .i64 0, .int .i64 0] (fps []) w)) (HS : Aside0 (Sep (fps []) w [] w)) (H : Aside0 (shape_Largest.f a1119 a1120 = some r)) :
    Calls Tryd.prog 20 #[.int .i64 a1119, .int .i64 a1120] w fun e w' => e = .returned (.int .i64 r) ∧ Sep (fps []) w [] w' := by
  unfold shape_Largest.f at H
  go_enter Tryd.func20, Tryd.ntmps20
  go_wp2_with fail
  obtain ⟨t1121, HA1122, H⟩ := bind_some H
  refine (shape_isWidth.calls a1119 t1121 _ ⟨HGl0.out.pass (l := []) HS.out⟩ ⟨Sep.start _⟩ HA1122).mono ?_
  rintro e_ w1123 ⟨rfl, hS⟩
  replace HS : Aside0 (Sep (fps []) w [] w1123) := ⟨HS.out.call hS⟩
  clear hS
  by_cases c1124 : t1121 = true
  · replace H := if_yes c1124 H
    have c1124b0 : t1121 = true := c1124
    have c1124b1 : (!t1121) = false := by rw [c1124b0]; rfl
    try rw [c1124b1]
    clear c1124
    by_cases c1125 : a1120 < 1
    · replace H := if_yes c1125 H
      have c1125b0 : decide (a1120 < 1) = true := decide_eq_true c1125
      clear c1125
      go_wp2_with fail
      go_ret
      rw [← some_eq H]
      exact ⟨(by first | rfl | (simp [IntKind.wrap_u32]; done)), HS.out⟩
    · replace H := if_no c1125 H
      have c1125b0 : decide (a1120 < 1) = false := decide_eq_false c1125
      clear c1125
      go_wp2_with fail
      obtain ⟨t1126, HA1127, H⟩ := bind_some H
      refine (shape_inHead.calls a1119 t1126 _ ⟨HGl0.out.pass (l := []) HS.out⟩ ⟨Sep.start _⟩ HA1127).mono ?_
      rintro e_ w1128 ⟨rfl, hS⟩
      replace HS : Aside0 (Sep (fps []) w [] w1128) := ⟨HS.out.call hS⟩
      clear hS
      by_cases c1129 : a1120 > (wrap64 (t1126 + 1))
      · replace H := if_yes c1129 H
        have c1129b0 : decide ((wrap64 (t1126 + 1)) < a1120) = true := decide_eq_true c1129
        clear c1129
        go_wp2_with fail
        go_ret
        rw [← some_eq H]
        exact ⟨(by first | rfl | (simp [IntKind.wrap_u32]; done)), HS.out⟩
      · replace H := if_no c1129 H
        have c1129b0 : decide ((wrap64 (t1126 + 1)) < a1120) = false := decide_eq_false c1129
        clear c1129
        by_cases c1130 : a1120 = 1
        · replace H := if_yes c1130 H
          have c1130b0 : (a1120 == 1) = true := beq_iff_eq.mpr c1130
          have c1130b1 : (a1120 != 1) = false := bne_eq_false_iff_eq.mpr c1130
          clear c1130
          go_wp2_with fail
          obtain ⟨t1131, HA1132, H⟩ := bind_some H
          refine (shape_inHead.calls a1119 t1131 _ ⟨HGl0.out.pass (l := []) HS.out⟩ ⟨Sep.start _⟩ HA1132).mono ?_
          rintro e_ w1133 ⟨rfl, hS⟩
          replace HS : Aside0 (Sep (fps []) w [] w1133) := ⟨HS.out.call hS⟩
          clear hS
          go_wp2_with fail
          go_ret
          rw [← some_eq H]
          exact ⟨(by first | rfl | (simp [IntKind.wrap_u32]; done)), HS.out⟩
        · replace H := if_no c1130 H
          have c1130b0 : (a1120 == 1) = false := beq_eq_false_iff_ne.mpr c1130
          have c1130b1 : (a1120 != 1) = true := bne_iff_ne.mpr c1130
          clear c1130
          go_wp2_with fail
          obtain ⟨t1134, HA1135, H⟩ := bind_some H
          refine (shape_inLeaf.calls a1119 t1134 _ ⟨HGl0.out.pass (l := []) HS.out⟩ ⟨Sep.start _⟩ HA1135).mono ?_
          rintro e_ w1136 ⟨rfl, hS⟩
          replace HS : Aside0 (Sep (fps []) w [] w1136) := ⟨HS.out.call hS⟩
          clear hS
          go_wp2_with fail
          go_ret
          rw [← some_eq H]
          exact ⟨(by first | rfl | (simp [IntKind.wrap_u32]; done)), HS.out⟩
  · replace H := if_no c1124 H
    have c1124b0 : t1121 = false := by simpa using c1124
    have c1124b1 : (!t1121) = true := by rw [c1124b0]; rfl
    try rw [c1124b1]
    clear c1124
    go_wp2_with fail
    go_ret
    rw [← some_eq H]
    exact ⟨(by first | rfl | (simp [IntKind.wrap_u32]; done)), HS.out⟩
end Go.Proofs.YtgkpcboaiaiahabDoor.C

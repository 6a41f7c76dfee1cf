/- Each function of the group RP does what its plain function says, and changes nothing that was there; proved by walking its code. No condition. -/
import Derived.Test.YtobeonkddamnoaaDoorQw
import Derived.Test.YtobeonkddamnoaaDoorMRP
import Derived.Test.YtobeonkddamnoaaDoorGRP0
import Derived.Test.YtobeonkddamnoaaDoorGRP1
import Derived.Test.YtobeonkddamnoaaDoorGRP2
namespace Go.Proofs.YtobeonkddamnoaaDoor.C
open Go.RowKit Go.Proofs.YtobeonkddamnoaaDoorW.PrintWords Go.Proofs.YtobeonkddamnoaaDoorW.PrintLast Go.Proofs.YtobeonkddamnoaaDoor.Q Go.Proofs.YtobeonkddamnoaaDoor.M
set_option linter.unusedVariables false
set_option linter.unusedSimpArgs false
set_option maxHeartbeats 30000000 in
set_option maxRecDepth 100000 in
theorem quitrentlaw09_stands.calls (k : Nat) (l3477 : List Int) (a3482 : Int) (a3483 : Int) (a3484 : Int) (a3485 : Int) (a3486 : Int) (l3487 : List Int) (l3491 : List Int) (g3473 : Nat) (g3475 : Nat) (A3478 : Option Addr) (m3479 : Nat) (n3480 : Nat) (A3488 : Option Addr) (n3489 : Nat) (A3492 : Option Addr) (n3493 : Nat) (r : Bool) (w : World) (HR3490 : Aside0 (Rd (Kd.int .u8) (fps [b8 g3473 g3475 a3483 a3484 a3485 a3486, b7 g3475 A3478 m3479 n3480 a3482, r6 A3478 m3479 n3480 l3477]) w A3488 l3487.length l3487)) (HR3494 : Aside0 (Rd (Kd.int .i64) (fps [b8 g3473 g3475 a3483 a3484 a3485 a3486, b7 g3475 A3478 m3479 n3480 a3482, r6 A3478 m3479 n3480 l3477]) w A3492 l3491.length l3491)) (HGl0 : Aside0 (Gl 0 #[.int .i64 0, .int .i64 0, .int .i64 0, .int .i64 0, .int .i64 0] (fps [b8 g3473 g3475 a3483 a3484 a3485 a3486, b7 g3475 A3478 m3479 n3480 a3482, r6 A3478 m3479 n3480 l3477]) w)) (HS : Aside0 (Sep (fps [b8 g3473 g3475 a3483 a3484 a3485 a3486, b7 g3475 A3478 m3479 n3480 a3482, r6 A3478 m3479 n3480 l3477]) w [b8 g3473 g3475 a3483 a3484 a3485 a3486, b7 g3475 A3478 m3479 n3480 a3482, r6 A3478 m3479 n3480 l3477] w)) (H : Aside0 (quitrentlaw09_stands.f k l3477 a3482 a3483 a3484 a3485 a3486 l3487 l3491 = some r)) :
    Calls Tryd.prog 31 #[.pointer (some ⟨g3473, 0, none⟩), .slice A3488 l3487.length n3489, .slice A3492 l3491.length n3493] w fun e w' => e = .returned (.bool r) ∧ Sep (fps [b8 g3473 g3475 a3483 a3484 a3485 a3486, b7 g3475 A3478 m3479 n3480 a3482, r6 A3478 m3479 n3480 l3477]) w [b8 g3473 g3475 a3483 a3484 a3485 a3486, b7 g3475 A3478 m3479 n3480 a3482, r6 A3478 m3479 n3480 l3477] w' := by
  generalize (fps [b8 g3473 g3475 a3483 a3484 a3485 a3486, b7 g3475 A3478 m3479 n3480 a3482, r6 A3478 m3479 n3480 l3477]) = FF at HS HR3490 HR3494 HGl0 ⊢
  obtain rfl := (row_len (HS.out.at2)).symm
  unfold quitrentlaw09_stands.f at H
  go_enter Tryd.func31, Tryd.ntmps31
  go_wp2_with fail
  obtain ⟨t3506, HA3507, H⟩ := bind_some H
  refine (quitrentref08_Ends.calls l3491 A3492 n3493 t3506 _ ⟨Rd.pass (l := []) (by decide) (fun _ _ _ _ h => h) HR3494.out HS.out⟩ ⟨HGl0.out.pass (l := []) HS.out⟩ ⟨Sep.start _⟩ HA3507).mono ?_
  rintro e_ w3508 ⟨rfl, hS⟩
  replace HS : Aside0 (Sep FF w [b8 g3473 g3475 a3483 a3484 a3485 a3486, b7 g3475 A3478 l3477.length n3480 a3482, r6 A3478 l3477.length n3480 l3477] w3508) := ⟨HS.out.call hS⟩
  clear hS
  go_wp2_with fail
  obtain ⟨t3509, HA3510, H⟩ := bind_some H
  refine (ground_Ground_SeeReg.calls l3477 a3482 a3483 a3484 a3485 a3486 7 g3473 g3475 A3478 l3477.length n3480 t3509 _ ⟨HGl0.out.pass HS.out⟩ ⟨HS.out.begin⟩ HA3510).mono ?_
  rintro e_ w3511 ⟨rfl, hS⟩
  replace HS : Aside0 (Sep FF w [b8 g3473 g3475 a3483 a3484 a3485 a3486, b7 g3475 A3478 l3477.length n3480 a3482, r6 A3478 l3477.length n3480 l3477] w3511) := ⟨HS.out.call hS⟩
  clear hS
  by_cases c3512 : t3509 = t3506.1
  · replace H := if_yes c3512 H
    have c3512b0 : (t3509 == t3506.1) = true := beq_iff_eq.mpr c3512
    have c3512b1 : (t3509 != t3506.1) = false := bne_eq_false_iff_eq.mpr c3512
    clear c3512
    go_wp2_with fail
    obtain ⟨t3513, HA3514, H⟩ := bind_some H
    refine (ground_Ground_SeeReg.calls l3477 a3482 a3483 a3484 a3485 a3486 8 g3473 g3475 A3478 l3477.length n3480 t3513 _ ⟨HGl0.out.pass HS.out⟩ ⟨HS.out.begin⟩ HA3514).mono ?_
    rintro e_ w3515 ⟨rfl, hS⟩
    replace HS : Aside0 (Sep FF w [b8 g3473 g3475 a3483 a3484 a3485 a3486, b7 g3475 A3478 l3477.length n3480 a3482, r6 A3478 l3477.length n3480 l3477] w3515) := ⟨HS.out.call hS⟩
    clear hS
    by_cases c3516 : t3513 = t3506.2.1
    · replace H := if_yes c3516 H
      have c3516b0 : (t3513 == t3506.2.1) = true := beq_iff_eq.mpr c3516
      have c3516b1 : (t3513 != t3506.2.1) = false := bne_eq_false_iff_eq.mpr c3516
      clear c3516
      go_wp2_with fail
      obtain ⟨t3517, HA3518, H⟩ := bind_some H
      refine (ground_Ground_SeeReg.calls l3477 a3482 a3483 a3484 a3485 a3486 9 g3473 g3475 A3478 l3477.length n3480 t3517 _ ⟨HGl0.out.pass HS.out⟩ ⟨HS.out.begin⟩ HA3518).mono ?_
      rintro e_ w3519 ⟨rfl, hS⟩
      replace HS : Aside0 (Sep FF w [b8 g3473 g3475 a3483 a3484 a3485 a3486, b7 g3475 A3478 l3477.length n3480 a3482, r6 A3478 l3477.length n3480 l3477] w3519) := ⟨HS.out.call hS⟩
      clear hS
      by_cases c3520 : t3517 = t3506.2.2
      · replace H := if_yes c3520 H
        have c3520b0 : (t3517 == t3506.2.2) = true := beq_iff_eq.mpr c3520
        have c3520b1 : (t3517 != t3506.2.2) = false := bne_eq_false_iff_eq.mpr c3520
        clear c3520
        go_wp2_with fail
        obtain ⟨o3563, AL3564, H⟩ := bind_some H
        go_loopg [40] k (fun kq v40 wc => ∃ (x3567 : Int), v40 = .int .i64 x3567 ∧ Aside0 (quitrentlaw09_stands.lo0 kq l3477 a3482 a3483 a3484 a3485 a3486 l3491 x3567 = some o3563) ∧ Aside0 (Sep FF w [b8 g3473 g3475 a3483 a3484 a3485 a3486, b7 g3475 A3478 l3477.length n3480 a3482, r6 A3478 l3477.length n3480 l3477] wc))
        case atStart => exact ⟨(0), (by first | rfl | (simp [IntKind.wrap_u32]; done)), AL3564, ⟨HS.out⟩⟩
        case round =>
          clear AL3564 HS
          obtain ⟨x3567, rfl, AL3564, HS⟩ := hrel
          obtain ⟨w3565, rfl⟩ : ∃ x : World, x = wr := ⟨_, rfl⟩
          cases gk with
          | zero => exact absurd AL3564.out (by simp [quitrentlaw09_stands.lo0])
          | succ k3566 =>
            have AL0 := AL3564.out
            rw [quitrentlaw09_stands.lo0] at AL0
            clear AL3564
            have AL3564 := Aside0.mk AL0
            clear AL0
            by_cases c3568 : x3567 < (l3491.length : Int)
            · replace AL3564 := if_yes c3568 AL3564
              have c3568b0 : decide (x3567 < (l3491.length : Int)) = true := decide_eq_true c3568
              clear c3568
              by_cases c3569 : 0 ≤ x3567
              · replace AL3564 := if_yes c3569 AL3564
                have c3569b0 : decide (0 ≤ x3567) = true := decide_eq_true c3569
                have c3569p : (0 ≤ x3567) = True := eq_true c3569
                clear c3569
                have ip3570 : (x3567 < (l3491.length : Int)) = True := eq_true (of_decide_eq_true c3568b0)
                obtain ⟨hx3571a, hx3571e, hx3571⟩ := Kd.at_int (Rd.read (fun _ _ _ _ h => h) HR3494.out HS.out.fr) x3567 (of_decide_eq_true c3569b0) (of_decide_eq_true c3568b0); cases hx3571e
                go_wp2_with fail
                clear hx3571
                obtain ⟨t3531, HA3572, AL3564⟩ := bind_some AL3564
                refine (ground_Ground_SeeWord.calls l3477 a3482 a3483 a3484 a3485 a3486 (rd l3491 x3567) 6 g3473 g3475 A3478 l3477.length n3480 t3531 _ ⟨HGl0.out.pass HS.out⟩ ⟨HS.out.begin⟩ HA3572).mono ?_
                rintro e_ w3573 ⟨rfl, hS⟩
                replace HS : Aside0 (Sep FF w [b8 g3473 g3475 a3483 a3484 a3485 a3486, b7 g3475 A3478 l3477.length n3480 a3482, r6 A3478 l3477.length n3480 l3477] w3573) := ⟨HS.out.call hS⟩
                clear hS
                go_wp2_with fail
                obtain ⟨t3543, HA3574, AL3564⟩ := bind_some AL3564
                refine (quitrentref09_Ahead.calls l3491 x3567 (some hx3571a) n3493 t3543 _ ⟨Rd.pass (l := []) (by decide) (fun _ _ _ _ h => h) HR3494.out HS.out⟩ ⟨HGl0.out.pass (l := []) HS.out⟩ ⟨Sep.start _⟩ HA3574).mono ?_
                rintro e_ w3575 ⟨rfl, hS⟩
                replace HS : Aside0 (Sep FF w [b8 g3473 g3475 a3483 a3484 a3485 a3486, b7 g3475 A3478 l3477.length n3480 a3482, r6 A3478 l3477.length n3480 l3477] w3575) := ⟨HS.out.call hS⟩
                clear hS
                by_cases c3576 : (wrap64 (t3531)) = t3543
                · replace AL3564 := if_yes c3576 AL3564
                  have c3576b0 : ((wrap64 (t3531)) == t3543) = true := beq_iff_eq.mpr c3576
                  have c3576b1 : ((wrap64 (t3531)) != t3543) = false := bne_eq_false_iff_eq.mpr c3576
                  clear c3576
                  go_wp2_with fail
                  obtain ⟨t3547, HA3577, AL3564⟩ := bind_some AL3564
                  refine (ground_Ground_SeeWord.calls l3477 a3482 a3483 a3484 a3485 a3486 (rd l3491 x3567) 7 g3473 g3475 A3478 l3477.length n3480 t3547 _ ⟨HGl0.out.pass HS.out⟩ ⟨HS.out.begin⟩ HA3577).mono ?_
                  rintro e_ w3578 ⟨rfl, hS⟩
                  replace HS : Aside0 (Sep FF w [b8 g3473 g3475 a3483 a3484 a3485 a3486, b7 g3475 A3478 l3477.length n3480 a3482, r6 A3478 l3477.length n3480 l3477] w3578) := ⟨HS.out.call hS⟩
                  clear hS
                  go_wp2_with fail
                  obtain ⟨t3559, HA3579, AL3564⟩ := bind_some AL3564
                  refine (quitrentref08_Next.calls l3491 x3567 (some hx3571a) n3493 t3559 _ ⟨Rd.pass (l := []) (by decide) (fun _ _ _ _ h => h) HR3494.out HS.out⟩ ⟨HGl0.out.pass (l := []) HS.out⟩ ⟨Sep.start _⟩ HA3579).mono ?_
                  rintro e_ w3580 ⟨rfl, hS⟩
                  replace HS : Aside0 (Sep FF w [b8 g3473 g3475 a3483 a3484 a3485 a3486, b7 g3475 A3478 l3477.length n3480 a3482, r6 A3478 l3477.length n3480 l3477] w3580) := ⟨HS.out.call hS⟩
                  clear hS
                  by_cases c3581 : (wrap64 (t3547)) = t3559
                  · replace AL3564 := if_yes c3581 AL3564
                    have c3581b0 : ((wrap64 (t3547)) == t3559) = true := beq_iff_eq.mpr c3581
                    have c3581b1 : ((wrap64 (t3547)) != t3559) = false := bne_eq_false_iff_eq.mpr c3581
                    clear c3581
                    go_wp2_with fail
                    go_roundg k3566
                    case measure => exact Nat.lt_succ_self _
                    case rel => exact ⟨(wrap64 (x3567 + 1)), (by first | rfl | (simp [IntKind.wrap_u32]; done)), Aside0.mk AL3564.out, ⟨HS.out⟩⟩
                  · replace AL3564 := if_no c3581 AL3564
                    have c3581b0 : ((wrap64 (t3547)) == t3559) = false := beq_eq_false_iff_ne.mpr c3581
                    have c3581b1 : ((wrap64 (t3547)) != t3559) = true := bne_iff_ne.mpr c3581
                    clear c3581
                    go_wp2_with fail
                    have ho := some_eq AL3564
                    subst ho
                    have H := lp_ret H
                    go_ret
                    rw [← some_eq H]
                    exact ⟨(by first | rfl | (simp [IntKind.wrap_u32]; done)), HS.out⟩
                · replace AL3564 := if_no c3576 AL3564
                  have c3576b0 : ((wrap64 (t3531)) == t3543) = false := beq_eq_false_iff_ne.mpr c3576
                  have c3576b1 : ((wrap64 (t3531)) != t3543) = true := bne_iff_ne.mpr c3576
                  clear c3576
                  go_wp2_with fail
                  have ho := some_eq AL3564
                  subst ho
                  have H := lp_ret H
                  go_ret
                  rw [← some_eq H]
                  exact ⟨(by first | rfl | (simp [IntKind.wrap_u32]; done)), HS.out⟩
              · replace AL3564 := if_no c3569 AL3564
                have c3569b0 : decide (0 ≤ x3567) = false := decide_eq_false c3569
                clear c3569
                exact (none_no AL3564).elim
            · replace AL3564 := if_no c3568 AL3564
              have c3568b0 : decide (x3567 < (l3491.length : Int)) = false := decide_eq_false c3568
              clear c3568
              have ho := some_eq AL3564
              subst ho
              clear AL3564
              have H := lp_out H
              go_wp2_with fail
              obtain ⟨o3629, AL3630, H⟩ := bind_some H
              go_loopg [66] k (fun kq v66 wc => ∃ (x3633 : Int), v66 = .int .i64 x3633 ∧ Aside0 (quitrentlaw09_stands.lo1 kq l3477 a3482 a3483 a3484 a3485 a3486 l3487 l3491 x3633 = some o3629) ∧ Aside0 (Sep FF w [b8 g3473 g3475 a3483 a3484 a3485 a3486, b7 g3475 A3478 l3477.length n3480 a3482, r6 A3478 l3477.length n3480 l3477] wc))
              case atStart => exact ⟨(0), (by first | rfl | (simp [IntKind.wrap_u32]; done)), AL3630, ⟨HS.out⟩⟩
              case round =>
                clear AL3630 HS
                obtain ⟨x3633, rfl, AL3630, HS⟩ := hrel
                obtain ⟨w3631, rfl⟩ : ∃ x : World, x = wr := ⟨_, rfl⟩
                cases gk with
                | zero => exact absurd AL3630.out (by simp [quitrentlaw09_stands.lo1])
                | succ k3632 =>
                  have AL0 := AL3630.out
                  rw [quitrentlaw09_stands.lo1] at AL0
                  clear AL3630
                  have AL3630 := Aside0.mk AL0
                  clear AL0
                  by_cases c3634 : x3633 < (l3487.length : Int)
                  · replace AL3630 := if_yes c3634 AL3630
                    have c3634b0 : decide (x3633 < (l3487.length : Int)) = true := decide_eq_true c3634
                    clear c3634
                    by_cases c3635 : 0 ≤ x3633
                    · replace AL3630 := if_yes c3635 AL3630
                      have c3635b0 : decide (0 ≤ x3633) = true := decide_eq_true c3635
                      have c3635p : (0 ≤ x3633) = True := eq_true c3635
                      clear c3635
                      have ip3636 : (x3633 < (l3487.length : Int)) = True := eq_true (of_decide_eq_true c3634b0)
                      obtain ⟨hx3637a, hx3637e, hx3637⟩ := Kd.at_int (Rd.read (fun _ _ _ _ h => h) HR3490.out HS.out.fr) x3633 (of_decide_eq_true c3635b0) (of_decide_eq_true c3634b0); cases hx3637e
                      go_wp2_with fail
                      clear hx3637
                      obtain ⟨t3592, HA3638, AL3630⟩ := bind_some AL3630
                      refine (quitrentlaw09_tagOf.calls (rd l3487 x3633) t3592 _ ⟨HGl0.out.pass (l := []) HS.out⟩ ⟨Sep.start _⟩ HA3638).mono ?_
                      rintro e_ w3639 ⟨rfl, hS⟩
                      replace HS : Aside0 (Sep FF w [b8 g3473 g3475 a3483 a3484 a3485 a3486, b7 g3475 A3478 l3477.length n3480 a3482, r6 A3478 l3477.length n3480 l3477] w3639) := ⟨HS.out.call hS⟩
                      clear hS
                      go_wp2_with (first | ((with_reducible refine gate_dst (N := 14) rfl ?_); refine box_on ?hg (N := 14) ?hd (cs := #[.int .i64 0, .int .i64 0, .int .i64 0, .int .i64 0, .int .i64 0, .int .i64 0, .int .i64 0]) (t := 32) ?hr ?_; (case hd => rfl); (case hg => rfl); (case hr => first | (go_simp; done) | (go_simp; rfl)); intro g3640 hg w3641 hbox hb; replace HS : Aside0 (Sep FF w [b8 g3473 g3475 a3483 a3484 a3485 a3486, b7 g3475 A3478 l3477.length n3480 a3482, r6 A3478 l3477.length n3480 l3477, b9 g3640 0 0 0 0 0 0 0] w3641) := ⟨HS.out.box hg hbox hb⟩; clear hg hbox hb; have hc3643 : w3641.cell? ⟨g3640, 0, none⟩ = some (.int .i64 0) := blk_cellv (HS.out.at3) 0 rfl; have hz3644 : w3641.frozen? ⟨g3640, 0, none⟩ = false := blk_fz (HS.out.at3) 0; have hc3645 : w3641.cell? ⟨g3640, 1, none⟩ = some (.int .i64 0) := blk_cellv (HS.out.at3) 1 rfl; have hz3646 : w3641.frozen? ⟨g3640, 1, none⟩ = false := blk_fz (HS.out.at3) 1; have hc3647 : w3641.cell? ⟨g3640, 2, none⟩ = some (.int .i64 0) := blk_cellv (HS.out.at3) 2 rfl; have hz3648 : w3641.frozen? ⟨g3640, 2, none⟩ = false := blk_fz (HS.out.at3) 2; have hc3649 : w3641.cell? ⟨g3640, 3, none⟩ = some (.int .i64 0) := blk_cellv (HS.out.at3) 3 rfl; have hz3650 : w3641.frozen? ⟨g3640, 3, none⟩ = false := blk_fz (HS.out.at3) 3; have hc3651 : w3641.cell? ⟨g3640, 4, none⟩ = some (.int .i64 0) := blk_cellv (HS.out.at3) 4 rfl; have hz3652 : w3641.frozen? ⟨g3640, 4, none⟩ = false := blk_fz (HS.out.at3) 4; have hc3653 : w3641.cell? ⟨g3640, 5, none⟩ = some (.int .i64 0) := blk_cellv (HS.out.at3) 5 rfl; have hz3654 : w3641.frozen? ⟨g3640, 5, none⟩ = false := blk_fz (HS.out.at3) 5; have hc3655 : w3641.cell? ⟨g3640, 6, none⟩ = some (.int .i64 0) := blk_cellv (HS.out.at3) 6 rfl; have hz3656 : w3641.frozen? ⟨g3640, 6, none⟩ = false := blk_fz (HS.out.at3) 6) | ((with_reducible refine gate_store (t := 32) (p := 14) rfl ?_); refine store_event (w1 := (World.setCell (World.setCell (World.setCell (World.setCell (World.setCell (World.setCell (World.setCell w3641 ⟨g3640, 0, none⟩ (.int .i64 t3592.1)) ⟨g3640, 1, none⟩ (.int .i64 t3592.2.1)) ⟨g3640, 2, none⟩ (.int .i64 t3592.2.2.1)) ⟨g3640, 3, none⟩ (.int .i64 t3592.2.2.2.1)) ⟨g3640, 4, none⟩ (.int .i64 t3592.2.2.2.2.1)) ⟨g3640, 5, none⟩ (.int .i64 t3592.2.2.2.2.2.1)) ⟨g3640, 6, none⟩ (.int .i64 t3592.2.2.2.2.2.2))) rfl (t := 32) (p := 14) rfl rfl ?hr ?_; (case hr => first | (go_simp; done) | (go_simp; rfl)); intro w3657 hst; clear hc3643 hz3644 hc3645 hz3646 hc3647 hz3648 hc3649 hz3650 hc3651 hz3652 hc3653 hz3654 hc3655 hz3656; replace HS : Aside0 (Sep FF w [b8 g3473 g3475 a3483 a3484 a3485 a3486, b7 g3475 A3478 l3477.length n3480 a3482, r6 A3478 l3477.length n3480 l3477, b9 g3640 t3592.1 t3592.2.1 t3592.2.2.1 t3592.2.2.2.1 t3592.2.2.2.2.1 t3592.2.2.2.2.2.1 t3592.2.2.2.2.2.2] w3657) := ⟨by rw [hst]; exact HS.out.setAll (l1 := [b8 g3473 g3475 a3483 a3484 a3485 a3486, b7 g3475 A3478 l3477.length n3480 a3482, r6 A3478 l3477.length n3480 l3477]) (l2 := []) [.int .i64 t3592.1, .int .i64 t3592.2.1, .int .i64 t3592.2.2.1, .int .i64 t3592.2.2.2.1, .int .i64 t3592.2.2.2.2.1, .int .i64 t3592.2.2.2.2.2.1, .int .i64 t3592.2.2.2.2.2.2] rfl⟩; clear hst))
                      obtain ⟨t3613, HA3658, AL3630⟩ := bind_some AL3630
                      refine (quitrentref08_Has.calls _ l3491 x3633 A3492 n3493 t3613 _ ⟨Rd.pass (l := []) (by decide) (fun _ _ _ _ h => h) HR3494.out HS.out⟩ ⟨HGl0.out.pass (l := []) HS.out⟩ ⟨Sep.start _⟩ HA3658).mono ?_
                      rintro e_ w3659 ⟨rfl, hS⟩
                      replace HS : Aside0 (Sep FF w [b8 g3473 g3475 a3483 a3484 a3485 a3486, b7 g3475 A3478 l3477.length n3480 a3482, r6 A3478 l3477.length n3480 l3477, b9 g3640 t3592.1 t3592.2.1 t3592.2.2.1 t3592.2.2.2.1 t3592.2.2.2.2.1 t3592.2.2.2.2.2.1 t3592.2.2.2.2.2.2] w3659) := ⟨HS.out.call hS⟩
                      clear hS
                      by_cases c3660 : t3613 = true
                      · replace AL3630 := if_yes c3660 AL3630
                        have c3660b0 : t3613 = true := c3660
                        have c3660b1 : (!t3613) = false := by rw [c3660b0]; rfl
                        clear c3660
                        have hc3661 : w3659.cell? ⟨g3640, 5, none⟩ = some (.int .i64 t3592.2.2.2.2.2.1) := blk_cellv (HS.out.at3) 5 rfl
                        have hz3662 : w3659.frozen? ⟨g3640, 5, none⟩ = false := blk_fz (HS.out.at3) 5
                        go_wp2_with (first | ((with_reducible refine gate_store (t := 3) (p := 77) rfl ?_); refine store_event (w1 := (World.setCell w3659 ⟨g3640, 5, none⟩ (.int .i64 1))) rfl (t := 3) (p := 77) rfl rfl ?hr ?_; (case hr => first | (go_simp; done) | (go_simp; rfl)); intro w3663 hst; clear hc3661 hz3662; have hq0 : Sep FF w [b8 g3473 g3475 a3483 a3484 a3485 a3486, b7 g3475 A3478 l3477.length n3480 a3482, r6 A3478 l3477.length n3480 l3477, b9 g3640 t3592.1 t3592.2.1 t3592.2.2.1 t3592.2.2.2.1 t3592.2.2.2.2.1 1 t3592.2.2.2.2.2.2] (World.setCell w3659 ⟨g3640, 5, none⟩ (.int .i64 1)) := (HS.out).set1 (l1 := [b8 g3473 g3475 a3483 a3484 a3485 a3486, b7 g3475 A3478 l3477.length n3480 a3482, r6 A3478 l3477.length n3480 l3477]) (l2 := []) 5 (.int .i64 1); replace HS : Aside0 (Sep FF w [b8 g3473 g3475 a3483 a3484 a3485 a3486, b7 g3475 A3478 l3477.length n3480 a3482, r6 A3478 l3477.length n3480 l3477, b9 g3640 t3592.1 t3592.2.1 t3592.2.2.1 t3592.2.2.2.1 t3592.2.2.2.2.1 1 t3592.2.2.2.2.2.2] w3663) := ⟨by rw [hst]; exact hq0⟩; clear hq0; clear hst))
                        refine start_ (n := 20) (S := (fun w' => w'.cell? ⟨g3640, 0, none⟩ = some (.int .i64 t3592.1) ∧ w'.cell? ⟨g3640, 1, none⟩ = some (.int .i64 t3592.2.1) ∧ w'.cell? ⟨g3640, 2, none⟩ = some (.int .i64 t3592.2.2.1) ∧ w'.cell? ⟨g3640, 3, none⟩ = some (.int .i64 t3592.2.2.2.1) ∧ w'.cell? ⟨g3640, 4, none⟩ = some (.int .i64 t3592.2.2.2.2.1) ∧ w'.cell? ⟨g3640, 5, none⟩ = some (.int .i64 1) ∧ w'.cell? ⟨g3640, 6, none⟩ = some (.int .i64 t3592.2.2.2.2.2.2))) (ds := []) #[false, false, false, false, false, false, false, false, false, false, false, false, false, false, false, false, false, false, false, false] (by kernel_rfl) rfl rfl (⟨blk_cellv ((HS.out.drew).at3) 0 rfl, blk_cellv ((HS.out.drew).at3) 1 rfl, blk_cellv ((HS.out.drew).at3) 2 rfl, blk_cellv ((HS.out.drew).at3) 3 rfl, blk_cellv ((HS.out.drew).at3) 4 rfl, blk_cellv ((HS.out.drew).at3) 5 rfl, blk_cellv ((HS.out.drew).at3) 6 rfl⟩) (fun hHeld => ?_)
                        have HS_ := Aside0.mk HS.out.drew
                        clear HS
                        generalize World.drew _ = w3665 at HS_ hHeld ⊢
                        have HS := HS_
                        clear HS_
                        refine pure_ (i := 0) (N := some 78) (v := ?_) (a' := ?_) #[true, false, false, false, false, false, false, false, false, false, false, false, false, false, false, false, false, false, false, false] rfl rfl (by kernel_rfl) (fun _ _ _ h => h) (Or.inl ⟨by rfl, ?_⟩) ?_ ?_
                        rotate_left
                        · intro w'
                          go_simp
                          with_reducible rfl
                        rotate_left
                        · simp only [Act.put, List.setIfInBounds_toArray, List.set_cons_zero, List.set_cons_succ, i64_w, i32_w]
                          rfl
                        refine pure_ (i := 1) (N := some 79) (v := ?_) (a' := ?_) #[true, true, false, false, false, false, false, false, false, false, false, false, false, false, false, false, false, false, false, false] rfl rfl (by kernel_rfl) (fun _ _ _ h => h) (Or.inl ⟨by rfl, ?_⟩) ?_ ?_
                        rotate_left
                        · intro w'
                          go_simp
                          with_reducible rfl
                        rotate_left
                        · simp only [Act.put, List.setIfInBounds_toArray, List.set_cons_zero, List.set_cons_succ, i64_w, i32_w]
                          rfl
                        refine take_ (i := 3) (N := some 81) (v := ?_) (a' := ?_) #[true, true, false, true, false, false, false, false, false, false, false, false, false, false, false, false, false, false, false, false] rfl rfl (by kernel_rfl) (fun _ _ _ h => h) (Or.inl ⟨by rfl, ?_⟩) hHeld ?_ ?_
                        rotate_left
                        · rintro w' hS'
                          obtain ⟨s0, s1, s2, s3, s4, s5, s6⟩ := hS'
                          go_simp
                          with_reducible rfl
                        rotate_left
                        · simp only [Act.put, List.setIfInBounds_toArray, List.set_cons_zero, List.set_cons_succ, i64_w, i32_w]
                          rfl
                        refine one_ (i := 2) (N := some 80) #[true, true, true, true, false, false, false, false, false, false, false, false, false, false, false, false, false, false, false, false] rfl rfl (by kernel_rfl) (by decide) (fun K hK => ?_)
                        obtain ⟨t3622, HA3666, AL3630⟩ := bind_some AL3630
                        refine goes_ Tryd.func18 (by kernel_rfl) rfl #[.pointer (some ⟨g3473, 0, none⟩), .int .i64 x3633, .int .i64 0] (by rfl) rfl rfl (by (try simp only [List.map_toArray, List.map_cons, List.map_nil]); first | done | rfl) ?_
                        refine (ground_Ground_SeeWord.calls l3477 a3482 a3483 a3484 a3485 a3486 x3633 0 g3473 g3475 A3478 l3477.length n3480 t3622 _ ⟨HGl0.out.pass HS.out⟩ ⟨HS.out.begin⟩ HA3666).mono ?_
                        rintro e_ w3667 ⟨rfl, hS⟩
                        replace HS : Aside0 (Sep FF w [b8 g3473 g3475 a3483 a3484 a3485 a3486, b7 g3475 A3478 l3477.length n3480 a3482, r6 A3478 l3477.length n3480 l3477, b9 g3640 t3592.1 t3592.2.1 t3592.2.2.1 t3592.2.2.2.1 t3592.2.2.2.2.1 1 t3592.2.2.2.2.2.2] w3667) := ⟨HS.out.call hS⟩
                        clear hS
                        refine ⟨_, rfl, ?_⟩
                        refine hK.out _ _ (⟨blk_cellv (HS.out.at3) 0 rfl, blk_cellv (HS.out.at3) 1 rfl, blk_cellv (HS.out.at3) 2 rfl, blk_cellv (HS.out.at3) 3 rfl, blk_cellv (HS.out.at3) 4 rfl, blk_cellv (HS.out.at3) 5 rfl, blk_cellv (HS.out.at3) 6 rfl⟩) (fun hHeld => ?_)
                        clear hK K
                        refine norm_ (a' := ?_) ?_ ?_
                        rotate_left
                        · show Act.put _ (some 80) _ = _
                          simp only [Act.put, List.setIfInBounds_toArray, List.set_cons_zero, List.set_cons_succ, i64_w, i32_w]
                          rfl
                        refine one_ (i := 4) (N := some 82) #[true, true, true, true, true, false, false, false, false, false, false, false, false, false, false, false, false, false, false, false] rfl rfl (by kernel_rfl) (by decide) (fun K hK => ?_)
                        obtain ⟨t3625, HA3668, AL3630⟩ := bind_some AL3630
                        refine goes_ Tryd.func77 (by kernel_rfl) rfl #[.agg #[.int .i64 t3592.1, .int .i64 t3592.2.1, .int .i64 t3592.2.2.1, .int .i64 t3592.2.2.2.1, .int .i64 t3592.2.2.2.2.1, .int .i64 1, .int .i64 t3592.2.2.2.2.2.2]] (by rfl) rfl rfl (by (try simp only [List.map_toArray, List.map_cons, List.map_nil]); first | done | rfl) ?_
                        refine (quitrentref06_Pack.calls t3592.1 t3592.2.1 t3592.2.2.1 t3592.2.2.2.1 t3592.2.2.2.2.1 1 t3592.2.2.2.2.2.2 t3625 _ ⟨HGl0.out.pass (l := []) HS.out⟩ ⟨Sep.start _⟩ HA3668).mono ?_
                        rintro e_ w3669 ⟨rfl, hS⟩
                        replace HS : Aside0 (Sep FF w [b8 g3473 g3475 a3483 a3484 a3485 a3486, b7 g3475 A3478 l3477.length n3480 a3482, r6 A3478 l3477.length n3480 l3477, b9 g3640 t3592.1 t3592.2.1 t3592.2.2.1 t3592.2.2.2.1 t3592.2.2.2.2.1 1 t3592.2.2.2.2.2.2] w3669) := ⟨HS.out.call hS⟩
                        clear hS
                        refine ⟨_, rfl, ?_⟩
                        refine hK.out _ _ (⟨blk_cellv (HS.out.at3) 0 rfl, blk_cellv (HS.out.at3) 1 rfl, blk_cellv (HS.out.at3) 2 rfl, blk_cellv (HS.out.at3) 3 rfl, blk_cellv (HS.out.at3) 4 rfl, blk_cellv (HS.out.at3) 5 rfl, blk_cellv (HS.out.at3) 6 rfl⟩) (fun hHeld => ?_)
                        clear hK K
                        refine norm_ (a' := ?_) ?_ ?_
                        rotate_left
                        · show Act.put _ (some 82) _ = _
                          simp only [Act.put, List.setIfInBounds_toArray, List.set_cons_zero, List.set_cons_succ, i64_w, i32_w]
                          rfl
                        refine pure_ (i := 5) (N := some 83) (v := ?_) (a' := ?_) #[true, true, true, true, true, true, false, false, false, false, false, false, false, false, false, false, false, false, false, false] rfl rfl (by kernel_rfl) (fun _ _ _ h => h) (Or.inl ⟨by rfl, ?_⟩) ?_ ?_
                        rotate_left
                        · intro w'
                          go_simp
                          with_reducible rfl
                        rotate_left
                        · simp only [Act.put, List.setIfInBounds_toArray, List.set_cons_zero, List.set_cons_succ, i64_w, i32_w]
                          rfl
                        refine pure_ (i := 6) (N := some 84) (v := ?_) (a' := ?_) #[true, true, true, true, true, true, true, false, false, false, false, false, false, false, false, false, false, false, false, false] rfl rfl (by kernel_rfl) (fun _ _ _ h => h) (Or.inl ⟨by rfl, ?_⟩) ?_ ?_
                        rotate_left
                        · intro w'
                          go_simp
                          with_reducible rfl
                        rotate_left
                        · simp only [Act.put, List.setIfInBounds_toArray, List.set_cons_zero, List.set_cons_succ, i64_w, i32_w]
                          rfl
                        by_cases c3670 : t3622 = t3625
                        · replace AL3630 := if_yes c3670 AL3630
                          have c3670b0 : (t3622 == t3625) = true := beq_iff_eq.mpr c3670
                          have c3670b1 : (t3622 != t3625) = false := bne_eq_false_iff_eq.mpr c3670
                          clear c3670
                          try simp only [c3670b0, c3670b1, Bool.not_true, Bool.not_false]
                          refine pure_ (i := 7) (N := some 85) (v := ?_) (a' := ?_) #[true, true, true, true, true, true, true, true, false, false, false, false, false, false, false, false, false, false, false, false] rfl rfl (by kernel_rfl) (fun _ _ _ h => h) (Or.inl ⟨by rfl, ?_⟩) ?_ ?_
                          rotate_left
                          · intro w'
                            go_simp
                            with_reducible rfl
                          rotate_left
                          · simp only [Act.put, List.setIfInBounds_toArray, List.set_cons_zero, List.set_cons_succ, i64_w, i32_w]
                            rfl
                          try simp only [c3670b0, c3670b1, Bool.not_true, Bool.not_false]
                          refine pure_ (i := 8) (N := some 86) (v := ?_) (a' := ?_) #[true, true, true, true, true, true, true, true, true, false, false, false, false, false, false, false, false, false, false, false] rfl rfl (by kernel_rfl) (fun _ _ _ h => h) (Or.inl ⟨by rfl, ?_⟩) ?_ ?_
                          rotate_left
                          · intro w'
                            go_simp
                            with_reducible rfl
                          rotate_left
                          · simp only [Act.put, List.setIfInBounds_toArray, List.set_cons_zero, List.set_cons_succ, i64_w, i32_w]
                            rfl
                          try simp only [c3670b0, c3670b1, Bool.not_true, Bool.not_false]
                          refine pure_ (i := 9) (N := some 87) (v := ?_) (a' := ?_) #[true, true, true, true, true, true, true, true, true, true, false, false, false, false, false, false, false, false, false, false] rfl rfl (by kernel_rfl) (fun _ _ _ h => h) (Or.inl ⟨by rfl, ?_⟩) ?_ ?_
                          rotate_left
                          · intro w'
                            go_simp
                            with_reducible rfl
                          rotate_left
                          · simp only [Act.put, List.setIfInBounds_toArray, List.set_cons_zero, List.set_cons_succ, i64_w, i32_w]
                            rfl
                          try simp only [c3660b0, Bool.not_true, Bool.not_false]
                          refine pure_ (i := 10) (N := some 88) (v := undef) (a' := ?_) #[true, true, true, true, true, true, true, true, true, true, true, false, false, false, false, false, false, false, false, false] rfl rfl (by kernel_rfl) (fun _ _ _ h => h) (Or.inr ⟨by rfl, rfl⟩) ?_ ?_
                          rotate_left
                          · simp only [Act.put, List.setIfInBounds_toArray, List.set_cons_zero, List.set_cons_succ, i64_w, i32_w]
                            rfl
                          try simp only [c3660b0, Bool.not_true, Bool.not_false]
                          refine pure_ (i := 11) (N := some 89) (v := undef) (a' := ?_) #[true, true, true, true, true, true, true, true, true, true, true, true, false, false, false, false, false, false, false, false] rfl rfl (by kernel_rfl) (fun _ _ _ h => h) (Or.inr ⟨by rfl, rfl⟩) ?_ ?_
                          rotate_left
                          · simp only [Act.put, List.setIfInBounds_toArray, List.set_cons_zero, List.set_cons_succ, i64_w, i32_w]
                            rfl
                          try simp only [c3660b0, Bool.not_true, Bool.not_false]
                          refine pure_ (i := 12) (N := some 90) (v := undef) (a' := ?_) #[true, true, true, true, true, true, true, true, true, true, true, true, true, false, false, false, false, false, false, false] rfl rfl (by kernel_rfl) (fun _ _ _ h => h) (Or.inr ⟨by rfl, rfl⟩) ?_ ?_
                          rotate_left
                          · simp only [Act.put, List.setIfInBounds_toArray, List.set_cons_zero, List.set_cons_succ, i64_w, i32_w]
                            rfl
                          try simp only [c3660b0, Bool.not_true, Bool.not_false]
                          refine pure_ (i := 13) (N := some 91) (v := undef) (a' := ?_) #[true, true, true, true, true, true, true, true, true, true, true, true, true, true, false, false, false, false, false, false] rfl rfl (by kernel_rfl) (fun _ _ _ h => h) (Or.inr ⟨by rfl, rfl⟩) ?_ ?_
                          rotate_left
                          · simp only [Act.put, List.setIfInBounds_toArray, List.set_cons_zero, List.set_cons_succ, i64_w, i32_w]
                            rfl
                          try simp only [c3660b0, Bool.not_true, Bool.not_false]
                          refine pure_ (i := 14) (N := some 92) (v := undef) (a' := ?_) #[true, true, true, true, true, true, true, true, true, true, true, true, true, true, true, false, false, false, false, false] rfl rfl (by kernel_rfl) (fun _ _ _ h => h) (Or.inr ⟨by rfl, rfl⟩) ?_ ?_
                          rotate_left
                          · simp only [Act.put, List.setIfInBounds_toArray, List.set_cons_zero, List.set_cons_succ, i64_w, i32_w]
                            rfl
                          try simp only [c3660b0, Bool.not_true, Bool.not_false]
                          refine pure_ (i := 15) (N := some 93) (v := undef) (a' := ?_) #[true, true, true, true, true, true, true, true, true, true, true, true, true, true, true, true, false, false, false, false] rfl rfl (by kernel_rfl) (fun _ _ _ h => h) (Or.inr ⟨by rfl, rfl⟩) ?_ ?_
                          rotate_left
                          · simp only [Act.put, List.setIfInBounds_toArray, List.set_cons_zero, List.set_cons_succ, i64_w, i32_w]
                            rfl
                          try simp only [c3660b0, Bool.not_true, Bool.not_false]
                          refine pure_ (i := 16) (N := some 94) (v := undef) (a' := ?_) #[true, true, true, true, true, true, true, true, true, true, true, true, true, true, true, true, true, false, false, false] rfl rfl (by kernel_rfl) (fun _ _ _ h => h) (Or.inr ⟨by rfl, rfl⟩) ?_ ?_
                          rotate_left
                          · simp only [Act.put, List.setIfInBounds_toArray, List.set_cons_zero, List.set_cons_succ, i64_w, i32_w]
                            rfl
                          try simp only [c3660b0, Bool.not_true, Bool.not_false]
                          refine pure_ (i := 17) (N := some 95) (v := undef) (a' := ?_) #[true, true, true, true, true, true, true, true, true, true, true, true, true, true, true, true, true, true, false, false] rfl rfl (by kernel_rfl) (fun _ _ _ h => h) (Or.inr ⟨by rfl, rfl⟩) ?_ ?_
                          rotate_left
                          · simp only [Act.put, List.setIfInBounds_toArray, List.set_cons_zero, List.set_cons_succ, i64_w, i32_w]
                            rfl
                          try simp only [c3670b0, c3670b1, Bool.not_true, Bool.not_false]
                          refine pure_ (i := 18) (N := some 96) (v := ?_) (a' := ?_) #[true, true, true, true, true, true, true, true, true, true, true, true, true, true, true, true, true, true, true, false] rfl rfl (by kernel_rfl) (fun _ _ _ h => h) (Or.inl ⟨by rfl, ?_⟩) ?_ ?_
                          rotate_left
                          · intro w'
                            go_simp
                            with_reducible rfl
                          rotate_left
                          · simp only [Act.put, List.setIfInBounds_toArray, List.set_cons_zero, List.set_cons_succ, i64_w, i32_w]
                            rfl
                          refine pure_ (i := 19) (N := some 97) (v := ?_) (a' := ?_) #[true, true, true, true, true, true, true, true, true, true, true, true, true, true, true, true, true, true, true, true] rfl rfl (by kernel_rfl) (fun _ _ _ h => h) (Or.inl ⟨by rfl, ?_⟩) ?_ ?_
                          rotate_left
                          · intro w'
                            go_simp
                            with_reducible rfl
                          rotate_left
                          · simp only [Act.put, List.setIfInBounds_toArray, List.set_cons_zero, List.set_cons_succ, i64_w, i32_w]
                            rfl
                          refine done_ (by kernel_rfl) ?_
                          replace HS : Aside0 (Sep FF w [b8 g3473 g3475 a3483 a3484 a3485 a3486, b7 g3475 A3478 l3477.length n3480 a3482, r6 A3478 l3477.length n3480 l3477] w3669) := ⟨HS.out.sub (.cons_cons _ (.cons_cons _ (.cons_cons _ (.cons _ .slnil))))⟩
                          go_wp2_with fail
                          go_roundg k3632
                          case measure => exact Nat.lt_succ_self _
                          case rel => exact ⟨(wrap64 (x3633 + 1)), (by first | rfl | (simp [IntKind.wrap_u32]; done)), Aside0.mk AL3630.out, ⟨HS.out⟩⟩
                        · replace AL3630 := if_no c3670 AL3630
                          have c3670b0 : (t3622 == t3625) = false := beq_eq_false_iff_ne.mpr c3670
                          have c3670b1 : (t3622 != t3625) = true := bne_iff_ne.mpr c3670
                          clear c3670
                          try simp only [c3670b0, c3670b1, Bool.not_true, Bool.not_false]
                          refine pure_ (i := 7) (N := some 85) (v := undef) (a' := ?_) #[true, true, true, true, true, true, true, true, false, false, false, false, false, false, false, false, false, false, false, false] rfl rfl (by kernel_rfl) (fun _ _ _ h => h) (Or.inr ⟨by rfl, rfl⟩) ?_ ?_
                          rotate_left
                          · simp only [Act.put, List.setIfInBounds_toArray, List.set_cons_zero, List.set_cons_succ, i64_w, i32_w]
                            rfl
                          try simp only [c3670b0, c3670b1, Bool.not_true, Bool.not_false]
                          refine pure_ (i := 8) (N := some 86) (v := undef) (a' := ?_) #[true, true, true, true, true, true, true, true, true, false, false, false, false, false, false, false, false, false, false, false] rfl rfl (by kernel_rfl) (fun _ _ _ h => h) (Or.inr ⟨by rfl, rfl⟩) ?_ ?_
                          rotate_left
                          · simp only [Act.put, List.setIfInBounds_toArray, List.set_cons_zero, List.set_cons_succ, i64_w, i32_w]
                            rfl
                          try simp only [c3670b0, c3670b1, Bool.not_true, Bool.not_false]
                          refine pure_ (i := 9) (N := some 87) (v := undef) (a' := ?_) #[true, true, true, true, true, true, true, true, true, true, false, false, false, false, false, false, false, false, false, false] rfl rfl (by kernel_rfl) (fun _ _ _ h => h) (Or.inr ⟨by rfl, rfl⟩) ?_ ?_
                          rotate_left
                          · simp only [Act.put, List.setIfInBounds_toArray, List.set_cons_zero, List.set_cons_succ, i64_w, i32_w]
                            rfl
                          refine pure_ (i := 10) (N := some 88) (v := undef) (a' := ?_) #[true, true, true, true, true, true, true, true, true, true, true, false, false, false, false, false, false, false, false, false] rfl rfl (by kernel_rfl) (fun _ _ _ h => h) (Or.inr ⟨by rfl, rfl⟩) ?_ ?_
                          rotate_left
                          · simp only [Act.put, List.setIfInBounds_toArray, List.set_cons_zero, List.set_cons_succ, i64_w, i32_w]
                            rfl
                          refine pure_ (i := 11) (N := some 89) (v := undef) (a' := ?_) #[true, true, true, true, true, true, true, true, true, true, true, true, false, false, false, false, false, false, false, false] rfl rfl (by kernel_rfl) (fun _ _ _ h => h) (Or.inr ⟨by rfl, rfl⟩) ?_ ?_
                          rotate_left
                          · simp only [Act.put, List.setIfInBounds_toArray, List.set_cons_zero, List.set_cons_succ, i64_w, i32_w]
                            rfl
                          refine pure_ (i := 12) (N := some 90) (v := undef) (a' := ?_) #[true, true, true, true, true, true, true, true, true, true, true, true, true, false, false, false, false, false, false, false] rfl rfl (by kernel_rfl) (fun _ _ _ h => h) (Or.inr ⟨by rfl, rfl⟩) ?_ ?_
                          rotate_left
                          · simp only [Act.put, List.setIfInBounds_toArray, List.set_cons_zero, List.set_cons_succ, i64_w, i32_w]
                            rfl
                          refine pure_ (i := 13) (N := some 91) (v := undef) (a' := ?_) #[true, true, true, true, true, true, true, true, true, true, true, true, true, true, false, false, false, false, false, false] rfl rfl (by kernel_rfl) (fun _ _ _ h => h) (Or.inr ⟨by rfl, rfl⟩) ?_ ?_
                          rotate_left
                          · simp only [Act.put, List.setIfInBounds_toArray, List.set_cons_zero, List.set_cons_succ, i64_w, i32_w]
                            rfl
                          refine pure_ (i := 14) (N := some 92) (v := undef) (a' := ?_) #[true, true, true, true, true, true, true, true, true, true, true, true, true, true, true, false, false, false, false, false] rfl rfl (by kernel_rfl) (fun _ _ _ h => h) (Or.inr ⟨by rfl, rfl⟩) ?_ ?_
                          rotate_left
                          · simp only [Act.put, List.setIfInBounds_toArray, List.set_cons_zero, List.set_cons_succ, i64_w, i32_w]
                            rfl
                          refine pure_ (i := 15) (N := some 93) (v := undef) (a' := ?_) #[true, true, true, true, true, true, true, true, true, true, true, true, true, true, true, true, false, false, false, false] rfl rfl (by kernel_rfl) (fun _ _ _ h => h) (Or.inr ⟨by rfl, rfl⟩) ?_ ?_
                          rotate_left
                          · simp only [Act.put, List.setIfInBounds_toArray, List.set_cons_zero, List.set_cons_succ, i64_w, i32_w]
                            rfl
                          refine pure_ (i := 16) (N := some 94) (v := undef) (a' := ?_) #[true, true, true, true, true, true, true, true, true, true, true, true, true, true, true, true, true, false, false, false] rfl rfl (by kernel_rfl) (fun _ _ _ h => h) (Or.inr ⟨by rfl, rfl⟩) ?_ ?_
                          rotate_left
                          · simp only [Act.put, List.setIfInBounds_toArray, List.set_cons_zero, List.set_cons_succ, i64_w, i32_w]
                            rfl
                          refine pure_ (i := 17) (N := some 95) (v := undef) (a' := ?_) #[true, true, true, true, true, true, true, true, true, true, true, true, true, true, true, true, true, true, false, false] rfl rfl (by kernel_rfl) (fun _ _ _ h => h) (Or.inr ⟨by rfl, rfl⟩) ?_ ?_
                          rotate_left
                          · simp only [Act.put, List.setIfInBounds_toArray, List.set_cons_zero, List.set_cons_succ, i64_w, i32_w]
                            rfl
                          try simp only [c3670b0, c3670b1, Bool.not_true, Bool.not_false]
                          refine pure_ (i := 18) (N := some 96) (v := undef) (a' := ?_) #[true, true, true, true, true, true, true, true, true, true, true, true, true, true, true, true, true, true, true, false] rfl rfl (by kernel_rfl) (fun _ _ _ h => h) (Or.inr ⟨by rfl, rfl⟩) ?_ ?_
                          rotate_left
                          · simp only [Act.put, List.setIfInBounds_toArray, List.set_cons_zero, List.set_cons_succ, i64_w, i32_w]
                            rfl
                          refine pure_ (i := 19) (N := some 97) (v := ?_) (a' := ?_) #[true, true, true, true, true, true, true, true, true, true, true, true, true, true, true, true, true, true, true, true] rfl rfl (by kernel_rfl) (fun _ _ _ h => h) (Or.inl ⟨by rfl, ?_⟩) ?_ ?_
                          rotate_left
                          · intro w'
                            go_simp
                            with_reducible rfl
                          rotate_left
                          · simp only [Act.put, List.setIfInBounds_toArray, List.set_cons_zero, List.set_cons_succ, i64_w, i32_w]
                            rfl
                          refine done_ (by kernel_rfl) ?_
                          replace HS : Aside0 (Sep FF w [b8 g3473 g3475 a3483 a3484 a3485 a3486, b7 g3475 A3478 l3477.length n3480 a3482, r6 A3478 l3477.length n3480 l3477] w3669) := ⟨HS.out.sub (.cons_cons _ (.cons_cons _ (.cons_cons _ (.cons _ .slnil))))⟩
                          go_wp2_with fail
                          have ho := some_eq AL3630
                          subst ho
                          have H := lp_ret H
                          go_ret
                          rw [← some_eq H]
                          exact ⟨(by first | rfl | (simp [IntKind.wrap_u32]; done)), HS.out⟩
                      · replace AL3630 := if_no c3660 AL3630
                        have c3660b0 : t3613 = false := by simpa using c3660
                        have c3660b1 : (!t3613) = true := by rw [c3660b0]; rfl
                        clear c3660
                        go_wp2_with fail
                        refine start_ (n := 20) (S := (fun w' => w'.cell? ⟨g3640, 0, none⟩ = some (.int .i64 t3592.1) ∧ w'.cell? ⟨g3640, 1, none⟩ = some (.int .i64 t3592.2.1) ∧ w'.cell? ⟨g3640, 2, none⟩ = some (.int .i64 t3592.2.2.1) ∧ w'.cell? ⟨g3640, 3, none⟩ = some (.int .i64 t3592.2.2.2.1) ∧ w'.cell? ⟨g3640, 4, none⟩ = some (.int .i64 t3592.2.2.2.2.1) ∧ w'.cell? ⟨g3640, 5, none⟩ = some (.int .i64 t3592.2.2.2.2.2.1) ∧ w'.cell? ⟨g3640, 6, none⟩ = some (.int .i64 t3592.2.2.2.2.2.2))) (ds := []) #[false, false, false, false, false, false, false, false, false, false, false, false, false, false, false, false, false, false, false, false] (by kernel_rfl) rfl rfl (⟨blk_cellv ((HS.out.drew).at3) 0 rfl, blk_cellv ((HS.out.drew).at3) 1 rfl, blk_cellv ((HS.out.drew).at3) 2 rfl, blk_cellv ((HS.out.drew).at3) 3 rfl, blk_cellv ((HS.out.drew).at3) 4 rfl, blk_cellv ((HS.out.drew).at3) 5 rfl, blk_cellv ((HS.out.drew).at3) 6 rfl⟩) (fun hHeld => ?_)
                        have HS_ := Aside0.mk HS.out.drew
                        clear HS
                        generalize World.drew _ = w3672 at HS_ hHeld ⊢
                        have HS := HS_
                        clear HS_
                        refine pure_ (i := 0) (N := some 78) (v := ?_) (a' := ?_) #[true, false, false, false, false, false, false, false, false, false, false, false, false, false, false, false, false, false, false, false] rfl rfl (by kernel_rfl) (fun _ _ _ h => h) (Or.inl ⟨by rfl, ?_⟩) ?_ ?_
                        rotate_left
                        · intro w'
                          go_simp
                          with_reducible rfl
                        rotate_left
                        · simp only [Act.put, List.setIfInBounds_toArray, List.set_cons_zero, List.set_cons_succ, i64_w, i32_w]
                          rfl
                        refine pure_ (i := 1) (N := some 79) (v := ?_) (a' := ?_) #[true, true, false, false, false, false, false, false, false, false, false, false, false, false, false, false, false, false, false, false] rfl rfl (by kernel_rfl) (fun _ _ _ h => h) (Or.inl ⟨by rfl, ?_⟩) ?_ ?_
                        rotate_left
                        · intro w'
                          go_simp
                          with_reducible rfl
                        rotate_left
                        · simp only [Act.put, List.setIfInBounds_toArray, List.set_cons_zero, List.set_cons_succ, i64_w, i32_w]
                          rfl
                        refine take_ (i := 3) (N := some 81) (v := ?_) (a' := ?_) #[true, true, false, true, false, false, false, false, false, false, false, false, false, false, false, false, false, false, false, false] rfl rfl (by kernel_rfl) (fun _ _ _ h => h) (Or.inl ⟨by rfl, ?_⟩) hHeld ?_ ?_
                        rotate_left
                        · rintro w' hS'
                          obtain ⟨s0, s1, s2, s3, s4, s5, s6⟩ := hS'
                          go_simp
                          with_reducible rfl
                        rotate_left
                        · simp only [Act.put, List.setIfInBounds_toArray, List.set_cons_zero, List.set_cons_succ, i64_w, i32_w]
                          rfl
                        refine one_ (i := 2) (N := some 80) #[true, true, true, true, false, false, false, false, false, false, false, false, false, false, false, false, false, false, false, false] rfl rfl (by kernel_rfl) (by decide) (fun K hK => ?_)
                        obtain ⟨t3622, HA3673, AL3630⟩ := bind_some AL3630
                        refine goes_ Tryd.func18 (by kernel_rfl) rfl #[.pointer (some ⟨g3473, 0, none⟩), .int .i64 x3633, .int .i64 0] (by rfl) rfl rfl (by (try simp only [List.map_toArray, List.map_cons, List.map_nil]); first | done | rfl) ?_
                        refine (ground_Ground_SeeWord.calls l3477 a3482 a3483 a3484 a3485 a3486 x3633 0 g3473 g3475 A3478 l3477.length n3480 t3622 _ ⟨HGl0.out.pass HS.out⟩ ⟨HS.out.begin⟩ HA3673).mono ?_
                        rintro e_ w3674 ⟨rfl, hS⟩
                        replace HS : Aside0 (Sep FF w [b8 g3473 g3475 a3483 a3484 a3485 a3486, b7 g3475 A3478 l3477.length n3480 a3482, r6 A3478 l3477.length n3480 l3477, b9 g3640 t3592.1 t3592.2.1 t3592.2.2.1 t3592.2.2.2.1 t3592.2.2.2.2.1 t3592.2.2.2.2.2.1 t3592.2.2.2.2.2.2] w3674) := ⟨HS.out.call hS⟩
                        clear hS
                        refine ⟨_, rfl, ?_⟩
                        refine hK.out _ _ (⟨blk_cellv (HS.out.at3) 0 rfl, blk_cellv (HS.out.at3) 1 rfl, blk_cellv (HS.out.at3) 2 rfl, blk_cellv (HS.out.at3) 3 rfl, blk_cellv (HS.out.at3) 4 rfl, blk_cellv (HS.out.at3) 5 rfl, blk_cellv (HS.out.at3) 6 rfl⟩) (fun hHeld => ?_)
                        clear hK K
                        refine norm_ (a' := ?_) ?_ ?_
                        rotate_left
                        · show Act.put _ (some 80) _ = _
                          simp only [Act.put, List.setIfInBounds_toArray, List.set_cons_zero, List.set_cons_succ, i64_w, i32_w]
                          rfl
                        refine one_ (i := 4) (N := some 82) #[true, true, true, true, true, false, false, false, false, false, false, false, false, false, false, false, false, false, false, false] rfl rfl (by kernel_rfl) (by decide) (fun K hK => ?_)
                        obtain ⟨t3625, HA3675, AL3630⟩ := bind_some AL3630
                        refine goes_ Tryd.func77 (by kernel_rfl) rfl #[.agg #[.int .i64 t3592.1, .int .i64 t3592.2.1, .int .i64 t3592.2.2.1, .int .i64 t3592.2.2.2.1, .int .i64 t3592.2.2.2.2.1, .int .i64 t3592.2.2.2.2.2.1, .int .i64 t3592.2.2.2.2.2.2]] (by rfl) rfl rfl (by (try simp only [List.map_toArray, List.map_cons, List.map_nil]); first | done | rfl) ?_
                        refine (quitrentref06_Pack.calls t3592.1 t3592.2.1 t3592.2.2.1 t3592.2.2.2.1 t3592.2.2.2.2.1 t3592.2.2.2.2.2.1 t3592.2.2.2.2.2.2 t3625 _ ⟨HGl0.out.pass (l := []) HS.out⟩ ⟨Sep.start _⟩ HA3675).mono ?_
                        rintro e_ w3676 ⟨rfl, hS⟩
                        replace HS : Aside0 (Sep FF w [b8 g3473 g3475 a3483 a3484 a3485 a3486, b7 g3475 A3478 l3477.length n3480 a3482, r6 A3478 l3477.length n3480 l3477, b9 g3640 t3592.1 t3592.2.1 t3592.2.2.1 t3592.2.2.2.1 t3592.2.2.2.2.1 t3592.2.2.2.2.2.1 t3592.2.2.2.2.2.2] w3676) := ⟨HS.out.call hS⟩
                        clear hS
                        refine ⟨_, rfl, ?_⟩
                        refine hK.out _ _ (⟨blk_cellv (HS.out.at3) 0 rfl, blk_cellv (HS.out.at3) 1 rfl, blk_cellv (HS.out.at3) 2 rfl, blk_cellv (HS.out.at3) 3 rfl, blk_cellv (HS.out.at3) 4 rfl, blk_cellv (HS.out.at3) 5 rfl, blk_cellv (HS.out.at3) 6 rfl⟩) (fun hHeld => ?_)
                        clear hK K
                        refine norm_ (a' := ?_) ?_ ?_
                        rotate_left
                        · show Act.put _ (some 82) _ = _
                          simp only [Act.put, List.setIfInBounds_toArray, List.set_cons_zero, List.set_cons_succ, i64_w, i32_w]
                          rfl
                        refine pure_ (i := 5) (N := some 83) (v := ?_) (a' := ?_) #[true, true, true, true, true, true, false, false, false, false, false, false, false, false, false, false, false, false, false, false] rfl rfl (by kernel_rfl) (fun _ _ _ h => h) (Or.inl ⟨by rfl, ?_⟩) ?_ ?_
                        rotate_left
                        · intro w'
                          go_simp
                          with_reducible rfl
                        rotate_left
                        · simp only [Act.put, List.setIfInBounds_toArray, List.set_cons_zero, List.set_cons_succ, i64_w, i32_w]
                          rfl
                        refine pure_ (i := 6) (N := some 84) (v := ?_) (a' := ?_) #[true, true, true, true, true, true, true, false, false, false, false, false, false, false, false, false, false, false, false, false] rfl rfl (by kernel_rfl) (fun _ _ _ h => h) (Or.inl ⟨by rfl, ?_⟩) ?_ ?_
                        rotate_left
                        · intro w'
                          go_simp
                          with_reducible rfl
                        rotate_left
                        · simp only [Act.put, List.setIfInBounds_toArray, List.set_cons_zero, List.set_cons_succ, i64_w, i32_w]
                          rfl
                        by_cases c3677 : t3622 = t3625
                        · replace AL3630 := if_yes c3677 AL3630
                          have c3677b0 : (t3622 == t3625) = true := beq_iff_eq.mpr c3677
                          have c3677b1 : (t3622 != t3625) = false := bne_eq_false_iff_eq.mpr c3677
                          clear c3677
                          try simp only [c3677b0, c3677b1, Bool.not_true, Bool.not_false]
                          refine pure_ (i := 7) (N := some 85) (v := ?_) (a' := ?_) #[true, true, true, true, true, true, true, true, false, false, false, false, false, false, false, false, false, false, false, false] rfl rfl (by kernel_rfl) (fun _ _ _ h => h) (Or.inl ⟨by rfl, ?_⟩) ?_ ?_
                          rotate_left
                          · intro w'
                            go_simp
                            with_reducible rfl
                          rotate_left
                          · simp only [Act.put, List.setIfInBounds_toArray, List.set_cons_zero, List.set_cons_succ, i64_w, i32_w]
                            rfl
                          try simp only [c3677b0, c3677b1, Bool.not_true, Bool.not_false]
                          refine pure_ (i := 8) (N := some 86) (v := ?_) (a' := ?_) #[true, true, true, true, true, true, true, true, true, false, false, false, false, false, false, false, false, false, false, false] rfl rfl (by kernel_rfl) (fun _ _ _ h => h) (Or.inl ⟨by rfl, ?_⟩) ?_ ?_
                          rotate_left
                          · intro w'
                            go_simp
                            with_reducible rfl
                          rotate_left
                          · simp only [Act.put, List.setIfInBounds_toArray, List.set_cons_zero, List.set_cons_succ, i64_w, i32_w]
                            rfl
                          try simp only [c3677b0, c3677b1, Bool.not_true, Bool.not_false]
                          refine pure_ (i := 9) (N := some 87) (v := ?_) (a' := ?_) #[true, true, true, true, true, true, true, true, true, true, false, false, false, false, false, false, false, false, false, false] rfl rfl (by kernel_rfl) (fun _ _ _ h => h) (Or.inl ⟨by rfl, ?_⟩) ?_ ?_
                          rotate_left
                          · intro w'
                            go_simp
                            with_reducible rfl
                          rotate_left
                          · simp only [Act.put, List.setIfInBounds_toArray, List.set_cons_zero, List.set_cons_succ, i64_w, i32_w]
                            rfl
                          try simp only [c3660b0, Bool.not_true, Bool.not_false]
                          refine pure_ (i := 10) (N := some 88) (v := ?_) (a' := ?_) #[true, true, true, true, true, true, true, true, true, true, true, false, false, false, false, false, false, false, false, false] rfl rfl (by kernel_rfl) (fun _ _ _ h => h) (Or.inl ⟨by rfl, ?_⟩) ?_ ?_
                          rotate_left
                          · intro w'
                            go_simp
                            with_reducible rfl
                          rotate_left
                          · simp only [Act.put, List.setIfInBounds_toArray, List.set_cons_zero, List.set_cons_succ, i64_w, i32_w]
                            rfl
                          try simp only [c3660b0, Bool.not_true, Bool.not_false]
                          refine pure_ (i := 11) (N := some 89) (v := ?_) (a' := ?_) #[true, true, true, true, true, true, true, true, true, true, true, true, false, false, false, false, false, false, false, false] rfl rfl (by kernel_rfl) (fun _ _ _ h => h) (Or.inl ⟨by rfl, ?_⟩) ?_ ?_
                          rotate_left
                          · intro w'
                            go_simp
                            with_reducible rfl
                          rotate_left
                          · simp only [Act.put, List.setIfInBounds_toArray, List.set_cons_zero, List.set_cons_succ, i64_w, i32_w]
                            rfl
                          try simp only [c3660b0, Bool.not_true, Bool.not_false]
                          refine pure_ (i := 13) (N := some 91) (v := ?_) (a' := ?_) #[true, true, true, true, true, true, true, true, true, true, true, true, false, true, false, false, false, false, false, false] rfl rfl (by kernel_rfl) (fun _ _ _ h => h) (Or.inl ⟨by rfl, ?_⟩) ?_ ?_
                          rotate_left
                          · intro w'
                            go_simp
                            with_reducible rfl
                          rotate_left
                          · simp only [Act.put, List.setIfInBounds_toArray, List.set_cons_zero, List.set_cons_succ, i64_w, i32_w]
                            rfl
                          try simp only [c3660b0, Bool.not_true, Bool.not_false]
                          refine pure_ (i := 14) (N := some 92) (v := ?_) (a' := ?_) #[true, true, true, true, true, true, true, true, true, true, true, true, false, true, true, false, false, false, false, false] rfl rfl (by kernel_rfl) (fun _ _ _ h => h) (Or.inl ⟨by rfl, ?_⟩) ?_ ?_
                          rotate_left
                          · intro w'
                            go_simp
                            with_reducible rfl
                          rotate_left
                          · simp only [Act.put, List.setIfInBounds_toArray, List.set_cons_zero, List.set_cons_succ, i64_w, i32_w]
                            rfl
                          try simp only [c3660b0, Bool.not_true, Bool.not_false]
                          refine one_ (i := 12) (N := some 90) #[true, true, true, true, true, true, true, true, true, true, true, true, true, true, true, false, false, false, false, false] rfl rfl (by kernel_rfl) (by decide) (fun K hK => ?_)
                          obtain ⟨t3678, HA3679, AL3630⟩ := bind_some AL3630
                          refine goes_ Tryd.func18 (by kernel_rfl) rfl #[.pointer (some ⟨g3473, 0, none⟩), .int .i64 x3633, .int .i64 6] (by rfl) rfl rfl (by (try simp only [List.map_toArray, List.map_cons, List.map_nil]); first | done | rfl) ?_
                          refine (ground_Ground_SeeWord.calls l3477 a3482 a3483 a3484 a3485 a3486 x3633 6 g3473 g3475 A3478 l3477.length n3480 t3678 _ ⟨HGl0.out.pass HS.out⟩ ⟨HS.out.begin⟩ HA3679).mono ?_
                          rintro e_ w3680 ⟨rfl, hS⟩
                          replace HS : Aside0 (Sep FF w [b8 g3473 g3475 a3483 a3484 a3485 a3486, b7 g3475 A3478 l3477.length n3480 a3482, r6 A3478 l3477.length n3480 l3477, b9 g3640 t3592.1 t3592.2.1 t3592.2.2.1 t3592.2.2.2.1 t3592.2.2.2.2.1 t3592.2.2.2.2.2.1 t3592.2.2.2.2.2.2] w3680) := ⟨HS.out.call hS⟩
                          clear hS
                          refine ⟨_, rfl, ?_⟩
                          refine hK.out _ _ (⟨blk_cellv (HS.out.at3) 0 rfl, blk_cellv (HS.out.at3) 1 rfl, blk_cellv (HS.out.at3) 2 rfl, blk_cellv (HS.out.at3) 3 rfl, blk_cellv (HS.out.at3) 4 rfl, blk_cellv (HS.out.at3) 5 rfl, blk_cellv (HS.out.at3) 6 rfl⟩) (fun hHeld => ?_)
                          clear hK K
                          refine norm_ (a' := ?_) ?_ ?_
                          rotate_left
                          · show Act.put _ (some 90) _ = _
                            simp only [Act.put, List.setIfInBounds_toArray, List.set_cons_zero, List.set_cons_succ, i64_w, i32_w]
                            rfl
                          try simp only [c3660b0, Bool.not_true, Bool.not_false]
                          refine one_ (i := 15) (N := some 93) #[true, true, true, true, true, true, true, true, true, true, true, true, true, true, true, true, false, false, false, false] rfl rfl (by kernel_rfl) (by decide) (fun K hK => ?_)
                          obtain ⟨t3681, HA3682, AL3630⟩ := bind_some AL3630
                          refine goes_ Tryd.func18 (by kernel_rfl) rfl #[.pointer (some ⟨g3473, 0, none⟩), .int .i64 x3633, .int .i64 7] (by rfl) rfl rfl (by (try simp only [List.map_toArray, List.map_cons, List.map_nil]); first | done | rfl) ?_
                          refine (ground_Ground_SeeWord.calls l3477 a3482 a3483 a3484 a3485 a3486 x3633 7 g3473 g3475 A3478 l3477.length n3480 t3681 _ ⟨HGl0.out.pass HS.out⟩ ⟨HS.out.begin⟩ HA3682).mono ?_
                          rintro e_ w3683 ⟨rfl, hS⟩
                          replace HS : Aside0 (Sep FF w [b8 g3473 g3475 a3483 a3484 a3485 a3486, b7 g3475 A3478 l3477.length n3480 a3482, r6 A3478 l3477.length n3480 l3477, b9 g3640 t3592.1 t3592.2.1 t3592.2.2.1 t3592.2.2.2.1 t3592.2.2.2.2.1 t3592.2.2.2.2.2.1 t3592.2.2.2.2.2.2] w3683) := ⟨HS.out.call hS⟩
                          clear hS
                          refine ⟨_, rfl, ?_⟩
                          refine hK.out _ _ (⟨blk_cellv (HS.out.at3) 0 rfl, blk_cellv (HS.out.at3) 1 rfl, blk_cellv (HS.out.at3) 2 rfl, blk_cellv (HS.out.at3) 3 rfl, blk_cellv (HS.out.at3) 4 rfl, blk_cellv (HS.out.at3) 5 rfl, blk_cellv (HS.out.at3) 6 rfl⟩) (fun hHeld => ?_)
                          clear hK K
                          refine norm_ (a' := ?_) ?_ ?_
                          rotate_left
                          · show Act.put _ (some 93) _ = _
                            simp only [Act.put, List.setIfInBounds_toArray, List.set_cons_zero, List.set_cons_succ, i64_w, i32_w]
                            rfl
                          try simp only [c3660b0, Bool.not_true, Bool.not_false]
                          refine pure_ (i := 16) (N := some 94) (v := ?_) (a' := ?_) #[true, true, true, true, true, true, true, true, true, true, true, true, true, true, true, true, true, false, false, false] rfl rfl (by kernel_rfl) (fun _ _ _ h => h) (Or.inl ⟨by rfl, ?_⟩) ?_ ?_
                          rotate_left
                          · intro w'
                            go_simp
                            with_reducible rfl
                          rotate_left
                          · simp only [Act.put, List.setIfInBounds_toArray, List.set_cons_zero, List.set_cons_succ, i64_w, i32_w, IntKind.wrap_u32]
                            rfl
                          try simp only [c3660b0, Bool.not_true, Bool.not_false]
                          refine pure_ (i := 17) (N := some 95) (v := ?_) (a' := ?_) #[true, true, true, true, true, true, true, true, true, true, true, true, true, true, true, true, true, true, false, false] rfl rfl (by kernel_rfl) (fun _ _ _ h => h) (Or.inl ⟨by rfl, ?_⟩) ?_ ?_
                          rotate_left
                          · intro w'
                            go_simp
                            with_reducible rfl
                          rotate_left
                          · simp only [Act.put, List.setIfInBounds_toArray, List.set_cons_zero, List.set_cons_succ, i64_w, i32_w, IntKind.wrap_u32]
                            rfl
                          try simp only [c3677b0, c3677b1, Bool.not_true, Bool.not_false]
                          refine pure_ (i := 18) (N := some 96) (v := ?_) (a' := ?_) #[true, true, true, true, true, true, true, true, true, true, true, true, true, true, true, true, true, true, true, false] rfl rfl (by kernel_rfl) (fun _ _ _ h => h) (Or.inl ⟨by rfl, ?_⟩) ?_ ?_
                          rotate_left
                          · intro w'
                            go_simp
                            with_reducible rfl
                          rotate_left
                          · simp only [Act.put, List.setIfInBounds_toArray, List.set_cons_zero, List.set_cons_succ, i64_w, i32_w, IntKind.wrap_u32]
                            rfl
                          refine pure_ (i := 19) (N := some 97) (v := ?_) (a' := ?_) #[true, true, true, true, true, true, true, true, true, true, true, true, true, true, true, true, true, true, true, true] rfl rfl (by kernel_rfl) (fun _ _ _ h => h) (Or.inl ⟨by rfl, ?_⟩) ?_ ?_
                          rotate_left
                          · intro w'
                            go_simp
                            with_reducible rfl
                          rotate_left
                          · simp only [Act.put, List.setIfInBounds_toArray, List.set_cons_zero, List.set_cons_succ, i64_w, i32_w, IntKind.wrap_u32]
                            rfl
                          refine done_ (by kernel_rfl) ?_
                          by_cases c3684 : ((t3678 + t3681) % 4294967296) = 0
                          · replace AL3630 := if_yes c3684 AL3630
                            have c3684b0 : (((t3678 + t3681) % 4294967296) == 0) = true := beq_iff_eq.mpr c3684
                            have c3684b1 : (((t3678 + t3681) % 4294967296) != 0) = false := bne_eq_false_iff_eq.mpr c3684
                            clear c3684
                            replace HS : Aside0 (Sep FF w [b8 g3473 g3475 a3483 a3484 a3485 a3486, b7 g3475 A3478 l3477.length n3480 a3482, r6 A3478 l3477.length n3480 l3477] w3683) := ⟨HS.out.sub (.cons_cons _ (.cons_cons _ (.cons_cons _ (.cons _ .slnil))))⟩
                            go_wp2_with fail
                            go_roundg k3632
                            case measure => exact Nat.lt_succ_self _
                            case rel => exact ⟨(wrap64 (x3633 + 1)), (by first | rfl | (simp [IntKind.wrap_u32]; done)), Aside0.mk AL3630.out, ⟨HS.out⟩⟩
                          · replace AL3630 := if_no c3684 AL3630
                            have c3684b0 : (((t3678 + t3681) % 4294967296) == 0) = false := beq_eq_false_iff_ne.mpr c3684
                            have c3684b1 : (((t3678 + t3681) % 4294967296) != 0) = true := bne_iff_ne.mpr c3684
                            clear c3684
                            replace HS : Aside0 (Sep FF w [b8 g3473 g3475 a3483 a3484 a3485 a3486, b7 g3475 A3478 l3477.length n3480 a3482, r6 A3478 l3477.length n3480 l3477] w3683) := ⟨HS.out.sub (.cons_cons _ (.cons_cons _ (.cons_cons _ (.cons _ .slnil))))⟩
                            go_wp2_with fail
                            have ho := some_eq AL3630
                            subst ho
                            have H := lp_ret H
                            go_ret
                            rw [← some_eq H]
                            exact ⟨(by first | rfl | (simp [IntKind.wrap_u32]; done)), HS.out⟩
                        · replace AL3630 := if_no c3677 AL3630
                          have c3677b0 : (t3622 == t3625) = false := beq_eq_false_iff_ne.mpr c3677
                          have c3677b1 : (t3622 != t3625) = true := bne_iff_ne.mpr c3677
                          clear c3677
                          try simp only [c3677b0, c3677b1, Bool.not_true, Bool.not_false]
                          refine pure_ (i := 7) (N := some 85) (v := undef) (a' := ?_) #[true, true, true, true, true, true, true, true, false, false, false, false, false, false, false, false, false, false, false, false] rfl rfl (by kernel_rfl) (fun _ _ _ h => h) (Or.inr ⟨by rfl, rfl⟩) ?_ ?_
                          rotate_left
                          · simp only [Act.put, List.setIfInBounds_toArray, List.set_cons_zero, List.set_cons_succ, i64_w, i32_w]
                            rfl
                          try simp only [c3677b0, c3677b1, Bool.not_true, Bool.not_false]
                          refine pure_ (i := 8) (N := some 86) (v := undef) (a' := ?_) #[true, true, true, true, true, true, true, true, true, false, false, false, false, false, false, false, false, false, false, false] rfl rfl (by kernel_rfl) (fun _ _ _ h => h) (Or.inr ⟨by rfl, rfl⟩) ?_ ?_
                          rotate_left
                          · simp only [Act.put, List.setIfInBounds_toArray, List.set_cons_zero, List.set_cons_succ, i64_w, i32_w]
                            rfl
                          try simp only [c3677b0, c3677b1, Bool.not_true, Bool.not_false]
                          refine pure_ (i := 9) (N := some 87) (v := undef) (a' := ?_) #[true, true, true, true, true, true, true, true, true, true, false, false, false, false, false, false, false, false, false, false] rfl rfl (by kernel_rfl) (fun _ _ _ h => h) (Or.inr ⟨by rfl, rfl⟩) ?_ ?_
                          rotate_left
                          · simp only [Act.put, List.setIfInBounds_toArray, List.set_cons_zero, List.set_cons_succ, i64_w, i32_w]
                            rfl
                          refine pure_ (i := 10) (N := some 88) (v := undef) (a' := ?_) #[true, true, true, true, true, true, true, true, true, true, true, false, false, false, false, false, false, false, false, false] rfl rfl (by kernel_rfl) (fun _ _ _ h => h) (Or.inr ⟨by rfl, rfl⟩) ?_ ?_
                          rotate_left
                          · simp only [Act.put, List.setIfInBounds_toArray, List.set_cons_zero, List.set_cons_succ, i64_w, i32_w]
                            rfl
                          refine pure_ (i := 11) (N := some 89) (v := undef) (a' := ?_) #[true, true, true, true, true, true, true, true, true, true, true, true, false, false, false, false, false, false, false, false] rfl rfl (by kernel_rfl) (fun _ _ _ h => h) (Or.inr ⟨by rfl, rfl⟩) ?_ ?_
                          rotate_left
                          · simp only [Act.put, List.setIfInBounds_toArray, List.set_cons_zero, List.set_cons_succ, i64_w, i32_w]
                            rfl
                          refine pure_ (i := 12) (N := some 90) (v := undef) (a' := ?_) #[true, true, true, true, true, true, true, true, true, true, true, true, true, false, false, false, false, false, false, false] rfl rfl (by kernel_rfl) (fun _ _ _ h => h) (Or.inr ⟨by rfl, rfl⟩) ?_ ?_
                          rotate_left
                          · simp only [Act.put, List.setIfInBounds_toArray, List.set_cons_zero, List.set_cons_succ, i64_w, i32_w]
                            rfl
                          refine pure_ (i := 13) (N := some 91) (v := undef) (a' := ?_) #[true, true, true, true, true, true, true, true, true, true, true, true, true, true, false, false, false, false, false, false] rfl rfl (by kernel_rfl) (fun _ _ _ h => h) (Or.inr ⟨by rfl, rfl⟩) ?_ ?_
                          rotate_left
                          · simp only [Act.put, List.setIfInBounds_toArray, List.set_cons_zero, List.set_cons_succ, i64_w, i32_w]
                            rfl
                          refine pure_ (i := 14) (N := some 92) (v := undef) (a' := ?_) #[true, true, true, true, true, true, true, true, true, true, true, true, true, true, true, false, false, false, false, false] rfl rfl (by kernel_rfl) (fun _ _ _ h => h) (Or.inr ⟨by rfl, rfl⟩) ?_ ?_
                          rotate_left
                          · simp only [Act.put, List.setIfInBounds_toArray, List.set_cons_zero, List.set_cons_succ, i64_w, i32_w]
                            rfl
                          refine pure_ (i := 15) (N := some 93) (v := undef) (a' := ?_) #[true, true, true, true, true, true, true, true, true, true, true, true, true, true, true, true, false, false, false, false] rfl rfl (by kernel_rfl) (fun _ _ _ h => h) (Or.inr ⟨by rfl, rfl⟩) ?_ ?_
                          rotate_left
                          · simp only [Act.put, List.setIfInBounds_toArray, List.set_cons_zero, List.set_cons_succ, i64_w, i32_w]
                            rfl
                          refine pure_ (i := 16) (N := some 94) (v := undef) (a' := ?_) #[true, true, true, true, true, true, true, true, true, true, true, true, true, true, true, true, true, false, false, false] rfl rfl (by kernel_rfl) (fun _ _ _ h => h) (Or.inr ⟨by rfl, rfl⟩) ?_ ?_
                          rotate_left
                          · simp only [Act.put, List.setIfInBounds_toArray, List.set_cons_zero, List.set_cons_succ, i64_w, i32_w]
                            rfl
                          refine pure_ (i := 17) (N := some 95) (v := undef) (a' := ?_) #[true, true, true, true, true, true, true, true, true, true, true, true, true, true, true, true, true, true, false, false] rfl rfl (by kernel_rfl) (fun _ _ _ h => h) (Or.inr ⟨by rfl, rfl⟩) ?_ ?_
                          rotate_left
                          · simp only [Act.put, List.setIfInBounds_toArray, List.set_cons_zero, List.set_cons_succ, i64_w, i32_w]
                            rfl
                          try simp only [c3677b0, c3677b1, Bool.not_true, Bool.not_false]
                          refine pure_ (i := 18) (N := some 96) (v := undef) (a' := ?_) #[true, true, true, true, true, true, true, true, true, true, true, true, true, true, true, true, true, true, true, false] rfl rfl (by kernel_rfl) (fun _ _ _ h => h) (Or.inr ⟨by rfl, rfl⟩) ?_ ?_
                          rotate_left
                          · simp only [Act.put, List.setIfInBounds_toArray, List.set_cons_zero, List.set_cons_succ, i64_w, i32_w]
                            rfl
                          refine pure_ (i := 19) (N := some 97) (v := ?_) (a' := ?_) #[true, true, true, true, true, true, true, true, true, true, true, true, true, true, true, true, true, true, true, true] rfl rfl (by kernel_rfl) (fun _ _ _ h => h) (Or.inl ⟨by rfl, ?_⟩) ?_ ?_
                          rotate_left
                          · intro w'
                            go_simp
                            with_reducible rfl
                          rotate_left
                          · simp only [Act.put, List.setIfInBounds_toArray, List.set_cons_zero, List.set_cons_succ, i64_w, i32_w]
                            rfl
                          refine done_ (by kernel_rfl) ?_
                          replace HS : Aside0 (Sep FF w [b8 g3473 g3475 a3483 a3484 a3485 a3486, b7 g3475 A3478 l3477.length n3480 a3482, r6 A3478 l3477.length n3480 l3477] w3676) := ⟨HS.out.sub (.cons_cons _ (.cons_cons _ (.cons_cons _ (.cons _ .slnil))))⟩
                          go_wp2_with fail
                          have ho := some_eq AL3630
                          subst ho
                          have H := lp_ret H
                          go_ret
                          rw [← some_eq H]
                          exact ⟨(by first | rfl | (simp [IntKind.wrap_u32]; done)), HS.out⟩
                    · replace AL3630 := if_no c3635 AL3630
                      have c3635b0 : decide (0 ≤ x3633) = false := decide_eq_false c3635
                      clear c3635
                      exact (none_no AL3630).elim
                  · replace AL3630 := if_no c3634 AL3630
                    have c3634b0 : decide (x3633 < (l3487.length : Int)) = false := decide_eq_false c3634
                    clear c3634
                    have ho := some_eq AL3630
                    subst ho
                    clear AL3630
                    have H := lp_out H
                    go_wp2_with fail
                    go_ret
                    rw [← some_eq H]
                    exact ⟨(by first | rfl | (simp [IntKind.wrap_u32]; done)), HS.out⟩
      · replace H := if_no c3520 H
        have c3520b0 : (t3517 == t3506.2.2) = false := beq_eq_false_iff_ne.mpr c3520
        have c3520b1 : (t3517 != t3506.2.2) = true := bne_iff_ne.mpr c3520
        clear c3520
        go_wp2_with fail
        go_ret
        rw [← some_eq H]
        exact ⟨(by first | rfl | (simp [IntKind.wrap_u32]; done)), HS.out⟩
    · replace H := if_no c3516 H
      have c3516b0 : (t3513 == t3506.2.1) = false := beq_eq_false_iff_ne.mpr c3516
      have c3516b1 : (t3513 != t3506.2.1) = true := bne_iff_ne.mpr c3516
      clear c3516
      go_wp2_with fail
      go_ret
      rw [← some_eq H]
      exact ⟨(by first | rfl | (simp [IntKind.wrap_u32]; done)), HS.out⟩
  · replace H := if_no c3512 H
    have c3512b0 : (t3509 == t3506.1) = false := beq_eq_false_iff_ne.mpr c3512
    have c3512b1 : (t3509 != t3506.1) = true := bne_iff_ne.mpr c3512
    clear c3512
    go_wp2_with fail
    go_ret
    rw [← some_eq H]
    exact ⟨(by first | rfl | (simp [IntKind.wrap_u32]; done)), HS.out⟩

set_option maxHeartbeats 30000000 in
set_option maxRecDepth 100000 in
theorem quitrentlaw09_RingPlays.calls (k : Nat) (l1 : List Int) (l5 : List (Int × Int)) (A2 : Option Addr) (n3 : Nat) (A6 : Option Addr) (n7 : Nat) (r : Bool) (w : World) (HR4 : Aside0 (Rd (Kd.int .u8) (fps []) w A2 l1.length l1)) (HR8 : Aside0 (Rd s16 (fps []) w A6 l5.length l5)) (HGl0 : Aside0 (Gl 0 #[.int .i64 0, .int .i64 0, .int .i64 0, .int .i64 0, .int .i64 0] (fps []) w)) (HS : Aside0 (Sep (fps []) w [] w)) (H : Aside0 (quitrentlaw09_RingPlays.f k l1 l5 = some r)) :
    Calls Tryd.prog 6 #[.slice A2 l1.length n3, .slice A6 l5.length n7] w fun e w' => e = .returned (.bool r) ∧ Sep (fps []) w [] w' := by
  unfold quitrentlaw09_RingPlays.f at H
  go_enter Tryd.func6, Tryd.ntmps6
  by_cases c9 : (l1.length : Int) < 1
  · replace H := if_yes c9 H
    have c9b0 : decide ((l1.length : Int) < 1) = true := decide_eq_true c9
    have c9b1 : decide (l1.length < 1) = true := decide_eq_true (by omega)
    clear c9
    go_wp2_with fail
    obtain ⟨t2762, HA2763, H⟩ := bind_some H
    refine (quitrentlaw09_begun.calls _ t2762 _ ⟨HGl0.out.pass (l := []) HS.out⟩ ⟨Sep.start _⟩ HA2763).mono ?_
    rintro e_ w2764 ⟨rfl, hS⟩
    replace HS : Aside0 (Sep (fps []) w [] w2764) := ⟨HS.out.call hS⟩
    clear hS
    go_wp2_with fail
    go_ret
    rw [← some_eq H]
    exact ⟨(by first | rfl | (simp [IntKind.wrap_u32]; done)), HS.out⟩
  · replace H := if_no c9 H
    have c9b0 : decide ((l1.length : Int) < 1) = false := decide_eq_false c9
    have c9b1 : decide (l1.length < 1) = false := decide_eq_false (by omega)
    clear c9
    by_cases c2765 : (l1.length : Int) > 60
    · replace H := if_yes c2765 H
      have c2765b0 : decide (60 < (l1.length : Int)) = true := decide_eq_true c2765
      have c2765b1 : decide (60 < l1.length) = true := decide_eq_true (by omega)
      clear c2765
      go_wp2_with fail
      obtain ⟨t2762, HA2766, H⟩ := bind_some H
      refine (quitrentlaw09_begun.calls _ t2762 _ ⟨HGl0.out.pass (l := []) HS.out⟩ ⟨Sep.start _⟩ HA2766).mono ?_
      rintro e_ w2767 ⟨rfl, hS⟩
      replace HS : Aside0 (Sep (fps []) w [] w2767) := ⟨HS.out.call hS⟩
      clear hS
      go_wp2_with fail
      go_ret
      rw [← some_eq H]
      exact ⟨(by first | rfl | (simp [IntKind.wrap_u32]; done)), HS.out⟩
    · replace H := if_no c2765 H
      have c2765b0 : decide (60 < (l1.length : Int)) = false := decide_eq_false c2765
      have c2765b1 : decide (60 < l1.length) = false := decide_eq_false (by omega)
      clear c2765
      by_cases c2768 : (l5.length : Int) > 200
      · replace H := if_yes c2768 H
        have c2768b0 : decide (200 < (l5.length : Int)) = true := decide_eq_true c2768
        have c2768b1 : decide (200 < l5.length) = true := decide_eq_true (by omega)
        clear c2768
        go_wp2_with fail
        obtain ⟨t2762, HA2769, H⟩ := bind_some H
        refine (quitrentlaw09_begun.calls _ t2762 _ ⟨HGl0.out.pass (l := []) HS.out⟩ ⟨Sep.start _⟩ HA2769).mono ?_
        rintro e_ w2770 ⟨rfl, hS⟩
        replace HS : Aside0 (Sep (fps []) w [] w2770) := ⟨HS.out.call hS⟩
        clear hS
        go_wp2_with fail
        go_ret
        rw [← some_eq H]
        exact ⟨(by first | rfl | (simp [IntKind.wrap_u32]; done)), HS.out⟩
      · replace H := if_no c2768 H
        have c2768b0 : decide (200 < (l5.length : Int)) = false := decide_eq_false c2768
        have c2768b1 : decide (200 < l5.length) = false := decide_eq_false (by omega)
        clear c2768
        go_wp2_with fail
        obtain ⟨t2771, HA2772, H⟩ := bind_some H
        rcases t2771 with t2773 | t2774
        · have H := sum_l H
          refine (quitrentlaw09_made.calls _ l1 A2 n3 (.inl t2773) _ ⟨Rd.pass (l := []) (by decide) (fun _ _ _ _ h => h) HR4.out HS.out⟩ ⟨HGl0.out.pass (l := []) HS.out⟩ ⟨Sep.start _⟩ HA2772).mono ?_
          rintro e_ w2775 ⟨rfl, hS⟩
          replace HS : Aside0 (Sep (fps []) w [] w2775) := ⟨HS.out.call hS⟩
          clear hS
          by_cases c2776 : t2773 = true
          · replace H := if_yes c2776 H
            have c2776b0 : t2773 = true := c2776
            have c2776b1 : (!t2773) = false := by rw [c2776b0]; rfl
            try rw [c2776b1]
            clear c2776
            go_wp2_with fail
            replace HS : Aside0 (Sep (fps []) w [r14 none 0 0 []] w2775) := ⟨HS.out.nilrow 3 (Value.int .i64)⟩
            obtain ⟨o2778, AL2779, H⟩ := bind_some H
            go_loopg [7, 34] k (fun kq v7 v34 wc => ∃ (x2784 : Int) (x2785 : List Int) (A2786 : Option Addr) (m2787 : Nat) (n2788 : Nat), v7 = .slice A2786 m2787 n2788 ∧ v34 = .int .i64 x2784 ∧ Aside0 (quitrentlaw09_RingPlays.lo0 kq l5 x2784 x2785 = some o2778) ∧ Aside0 (Sep (fps []) w [r14 A2786 m2787 n2788 x2785] wc))
            case atStart => exact ⟨(0), (([] : List Int)), (none), (0), (0), (by first | rfl | (simp [IntKind.wrap_u32]; done)), (by first | rfl | (simp [IntKind.wrap_u32]; done)), AL2779, ⟨HS.out⟩⟩
            case round =>
              clear AL2779 HS
              obtain ⟨x2784, x2785, A2786, m2787, n2788, rfl, rfl, AL2779, HS⟩ := hrel
              obtain ⟨w2780, rfl⟩ : ∃ x : World, x = wr := ⟨_, rfl⟩
              obtain rfl := (row_len (HS.out.at0)).symm
              cases gk with
              | zero => exact absurd AL2779.out (by simp [quitrentlaw09_RingPlays.lo0])
              | succ k2781 =>
                have AL0 := AL2779.out
                rw [quitrentlaw09_RingPlays.lo0] at AL0
                clear AL2779
                have AL2779 := Aside0.mk AL0
                clear AL0
                by_cases c2790 : x2784 < (l5.length : Int)
                · replace AL2779 := if_yes c2790 AL2779
                  have c2790b0 : decide (x2784 < (l5.length : Int)) = true := decide_eq_true c2790
                  clear c2790
                  have ip2792 : (x2784 < (l5.length : Int)) = True := eq_true (of_decide_eq_true c2790b0)
                  exact (none_no AL2779).elim
                · replace AL2779 := if_no c2790 AL2779
                  have c2790b0 : decide (x2784 < (l5.length : Int)) = false := decide_eq_false c2790
                  clear c2790
                  have ho := some_eq AL2779
                  subst ho
                  clear AL2779
                  go_wp2_with fail
                  obtain ⟨t2806, HA2807, H⟩ := bind_some H
                  refine (quitrentlaw09_begun.calls _ t2806 _ ⟨HGl0.out.pass (l := []) HS.out⟩ ⟨Sep.start _⟩ HA2807).mono ?_
                  rintro e_ w2808 ⟨rfl, hS⟩
                  replace HS : Aside0 (Sep (fps []) w [r14 A2786 x2785.length n2788 x2785] w2808) := ⟨HS.out.call hS⟩
                  clear hS
                  replace HS : Aside0 (Sep (fps []) w [] w2808) := ⟨HS.out.sub (.cons _ .slnil)⟩
                  go_wp2_with fail
                  go_ret
                  rw [← some_eq H]
                  exact ⟨(by first | rfl | (simp [IntKind.wrap_u32]; done)), HS.out⟩
          · replace H := if_no c2776 H
            have c2776b0 : t2773 = false := by simpa using c2776
            have c2776b1 : (!t2773) = true := by rw [c2776b0]; rfl
            try rw [c2776b1]
            clear c2776
            go_wp2_with fail
            go_ret
            rw [← some_eq H]
            exact ⟨(by first | rfl | (simp [IntKind.wrap_u32]; done)), HS.out⟩
        · have H := sum_r H
          refine (quitrentlaw09_made.calls _ l1 A2 n3 (.inr t2774) _ ⟨Rd.pass (l := []) (by decide) (fun _ _ _ _ h => h) HR4.out HS.out⟩ ⟨HGl0.out.pass (l := []) HS.out⟩ ⟨Sep.start _⟩ HA2772).mono ?_
          rintro e_ w2815 ⟨g2819, rfl, g2820, A2821, m2822, n2823, hS⟩
          replace HS : Aside0 (Sep (fps []) w [b8 g2819 g2820 t2774.2.1 t2774.2.2.1 t2774.2.2.2.1 t2774.2.2.2.2.1, b7 g2820 A2821 m2822 n2823 t2774.2.2.2.2.2.1, r6 A2821 m2822 n2823 t2774.2.2.2.2.2.2] w2815) := ⟨HS.out.call hS⟩
          clear hS
          obtain rfl := (row_len (HS.out.at2)).symm
          by_cases c2825 : t2774.1 = true
          · replace H := if_yes c2825 H
            have c2825b0 : t2774.1 = true := c2825
            have c2825b1 : (!t2774.1) = false := by rw [c2825b0]; rfl
            try rw [c2825b1]
            clear c2825
            go_wp2_with fail
            replace HS : Aside0 (Sep (fps []) w [r14 none 0 0 [], b8 g2819 g2820 t2774.2.1 t2774.2.2.1 t2774.2.2.2.1 t2774.2.2.2.2.1, b7 g2820 A2821 ((t2774.2.2.2.2.2.2).length) n2823 t2774.2.2.2.2.2.1, r6 A2821 ((t2774.2.2.2.2.2.2).length) n2823 t2774.2.2.2.2.2.2] w2815) := ⟨HS.out.nilrow 3 (Value.int .i64)⟩
            obtain ⟨o3813, AL3814, H⟩ := bind_some H
            go_loopg [7, 34] k (fun kq v7 v34 wc => ∃ (x3819 : Int) (x3820 : List Int) (x3825 : List Int) (x3826 : Int) (A3821 : Option Addr) (m3822 : Nat) (n3823 : Nat), v7 = .slice A3821 m3822 n3823 ∧ v34 = .int .i64 x3819 ∧ Aside0 (quitrentlaw09_RingPlays.lo1 kq l1 l5 t2774 x3819 x3820 x3825 x3826 = some o3813) ∧ Aside0 (Sep (fps []) w [r14 A3821 m3822 n3823 x3820, b8 g2819 g2820 t2774.2.1 t2774.2.2.1 t2774.2.2.2.1 t2774.2.2.2.2.1, b7 g2820 A2821 ((t2774.2.2.2.2.2.2).length) n2823 x3826, r6 A2821 ((t2774.2.2.2.2.2.2).length) n2823 x3825] wc))
            case atStart => exact ⟨(0), (([] : List Int)), (t2774.2.2.2.2.2.2), (t2774.2.2.2.2.2.1), (none), (0), (0), (by first | rfl | (simp [IntKind.wrap_u32]; done)), (by first | rfl | (simp [IntKind.wrap_u32]; done)), AL3814, ⟨HS.out⟩⟩
            case round =>
              clear AL3814 HS
              obtain ⟨x3819, x3820, x3825, x3826, A3821, m3822, n3823, rfl, rfl, AL3814, HS⟩ := hrel
              obtain ⟨w3815, rfl⟩ : ∃ x : World, x = wr := ⟨_, rfl⟩
              obtain rfl := (row_len (HS.out.at0)).symm
              cases gk with
              | zero => exact absurd AL3814.out (by simp [quitrentlaw09_RingPlays.lo1])
              | succ k3816 =>
                have AL0 := AL3814.out
                rw [quitrentlaw09_RingPlays.lo1] at AL0
                clear AL3814
                have AL3814 := Aside0.mk AL0
                clear AL0
                by_cases c3827 : x3819 < (l5.length : Int)
                · replace AL3814 := if_yes c3827 AL3814
                  have c3827b0 : decide (x3819 < (l5.length : Int)) = true := decide_eq_true c3827
                  clear c3827
                  by_cases c3828 : 0 ≤ x3819
                  · replace AL3814 := if_yes c3828 AL3814
                    have c3828b0 : decide (0 ≤ x3819) = true := decide_eq_true c3828
                    have c3828p : (0 ≤ x3819) = True := eq_true c3828
                    clear c3828
                    have ip3829 : (x3819 < (l5.length : Int)) = True := eq_true (of_decide_eq_true c3827b0)
                    obtain ⟨hx3830a, hx3830e, hx3831, hx3832⟩ := s16_at HR8.out HS.out.fr x3819 (of_decide_eq_true c3828b0) (of_decide_eq_true c3827b0); cases hx3830e
                    go_wp2_with (first | ((with_reducible refine gate_dst (N := 9) rfl ?_); refine box_on ?hg (N := 9) ?hd (cs := #[.int .u8 0, .int .i64 0]) (t := 54) ?hr ?_; (case hd => rfl); (case hg => rfl); (case hr => first | (go_simp; done) | (go_simp; rfl)); intro g3833 hg w3834 hbox hb; clear hx3831 hx3832; replace HS : Aside0 (Sep (fps []) w [r14 A3821 x3820.length n3823 x3820, b8 g2819 g2820 t2774.2.1 t2774.2.2.1 t2774.2.2.2.1 t2774.2.2.2.2.1, b7 g2820 A2821 ((t2774.2.2.2.2.2.2).length) n2823 x3826, r6 A2821 ((t2774.2.2.2.2.2.2).length) n2823 x3825, b17 g3833 0 0] w3834) := ⟨HS.out.box hg hbox hb⟩; clear hg hbox hb; have hc3836 : w3834.cell? ⟨g3833, 0, none⟩ = some (.int .u8 0) := blk_cellv (HS.out.at4) 0 rfl; have hz3837 : w3834.frozen? ⟨g3833, 0, none⟩ = false := blk_fz (HS.out.at4) 0; have hc3838 : w3834.cell? ⟨g3833, 1, none⟩ = some (.int .i64 0) := blk_cellv (HS.out.at4) 1 rfl; have hz3839 : w3834.frozen? ⟨g3833, 1, none⟩ = false := blk_fz (HS.out.at4) 1) | ((with_reducible refine gate_store (t := 54) (p := 9) rfl ?_); refine store_event (w1 := (World.setCell (World.setCell w3834 ⟨g3833, 0, none⟩ (.int .u8 ((rdOf (0, 0) l5 x3819).1))) ⟨g3833, 1, none⟩ (.int .i64 ((rdOf (0, 0) l5 x3819).2)))) rfl (t := 54) (p := 9) rfl rfl ?hr ?_; (case hr => first | (go_simp; done) | (go_simp; rfl)); intro w3840 hst; clear hc3836 hz3837 hc3838 hz3839; have hq0 : Sep (fps []) w [r14 A3821 x3820.length n3823 x3820, b8 g2819 g2820 t2774.2.1 t2774.2.2.1 t2774.2.2.2.1 t2774.2.2.2.2.1, b7 g2820 A2821 ((t2774.2.2.2.2.2.2).length) n2823 x3826, r6 A2821 ((t2774.2.2.2.2.2.2).length) n2823 x3825, b17 g3833 ((rdOf (0, 0) l5 x3819).1) 0] (World.setCell w3834 ⟨g3833, 0, none⟩ (.int .u8 ((rdOf (0, 0) l5 x3819).1))) := (HS.out).set1 (l1 := [r14 A3821 x3820.length n3823 x3820, b8 g2819 g2820 t2774.2.1 t2774.2.2.1 t2774.2.2.2.1 t2774.2.2.2.2.1, b7 g2820 A2821 ((t2774.2.2.2.2.2.2).length) n2823 x3826, r6 A2821 ((t2774.2.2.2.2.2.2).length) n2823 x3825]) (l2 := []) 0 (.int .u8 ((rdOf (0, 0) l5 x3819).1)); have hq1 : Sep (fps []) w [r14 A3821 x3820.length n3823 x3820, b8 g2819 g2820 t2774.2.1 t2774.2.2.1 t2774.2.2.2.1 t2774.2.2.2.2.1, b7 g2820 A2821 ((t2774.2.2.2.2.2.2).length) n2823 x3826, r6 A2821 ((t2774.2.2.2.2.2.2).length) n2823 x3825, b17 g3833 ((rdOf (0, 0) l5 x3819).1) ((rdOf (0, 0) l5 x3819).2)] (World.setCell (World.setCell w3834 ⟨g3833, 0, none⟩ (.int .u8 ((rdOf (0, 0) l5 x3819).1))) ⟨g3833, 1, none⟩ (.int .i64 ((rdOf (0, 0) l5 x3819).2))) := (hq0).set1 (l1 := [r14 A3821 x3820.length n3823 x3820, b8 g2819 g2820 t2774.2.1 t2774.2.2.1 t2774.2.2.2.1 t2774.2.2.2.2.1, b7 g2820 A2821 ((t2774.2.2.2.2.2.2).length) n2823 x3826, r6 A2821 ((t2774.2.2.2.2.2.2).length) n2823 x3825]) (l2 := []) 1 (.int .i64 ((rdOf (0, 0) l5 x3819).2)); replace HS : Aside0 (Sep (fps []) w [r14 A3821 x3820.length n3823 x3820, b8 g2819 g2820 t2774.2.1 t2774.2.2.1 t2774.2.2.2.1 t2774.2.2.2.2.1, b7 g2820 A2821 ((t2774.2.2.2.2.2.2).length) n2823 x3826, r6 A2821 ((t2774.2.2.2.2.2.2).length) n2823 x3825, b17 g3833 ((rdOf (0, 0) l5 x3819).1) ((rdOf (0, 0) l5 x3819).2)] w3840) := ⟨by rw [hst]; exact hq1⟩; clear hq0 hq1; clear hst; have hc3841 : w3840.cell? ⟨g3833, 0, none⟩ = some (.int .u8 ((rdOf (0, 0) l5 x3819).1)) := blk_cellv (HS.out.at4) 0 rfl; have hc3842 : w3840.cell? ⟨g3833, 1, none⟩ = some (.int .i64 ((rdOf (0, 0) l5 x3819).2)) := blk_cellv (HS.out.at4) 1 rfl))
                    clear hc3841 hc3842
                    replace HS : Aside0 (Sep (fps []) w [r6 A2821 ((t2774.2.2.2.2.2.2).length) n2823 x3825, r14 A3821 x3820.length n3823 x3820, b8 g2819 g2820 t2774.2.1 t2774.2.2.1 t2774.2.2.2.1 t2774.2.2.2.2.1, b7 g2820 A2821 ((t2774.2.2.2.2.2.2).length) n2823 x3826, b17 g3833 ((rdOf (0, 0) l5 x3819).1) ((rdOf (0, 0) l5 x3819).2)] w3840) := ⟨HS.out.front 3 (by simp)⟩
                    replace HS : Aside0 (Sep (fps []) w [b7 g2820 A2821 ((t2774.2.2.2.2.2.2).length) n2823 x3826, r6 A2821 ((t2774.2.2.2.2.2.2).length) n2823 x3825, r14 A3821 x3820.length n3823 x3820, b8 g2819 g2820 t2774.2.1 t2774.2.2.1 t2774.2.2.2.1 t2774.2.2.2.2.1, b17 g3833 ((rdOf (0, 0) l5 x3819).1) ((rdOf (0, 0) l5 x3819).2)] w3840) := ⟨HS.out.front 3 (by simp)⟩
                    replace HS : Aside0 (Sep (fps []) w [b8 g2819 g2820 t2774.2.1 t2774.2.2.1 t2774.2.2.2.1 t2774.2.2.2.2.1, b7 g2820 A2821 ((t2774.2.2.2.2.2.2).length) n2823 x3826, r6 A2821 ((t2774.2.2.2.2.2.2).length) n2823 x3825, r14 A3821 x3820.length n3823 x3820, b17 g3833 ((rdOf (0, 0) l5 x3819).1) ((rdOf (0, 0) l5 x3819).2)] w3840) := ⟨HS.out.front 3 (by simp)⟩
                    obtain ⟨t3463, HA3843, AL3814⟩ := bind_some AL3814
                    rcases t3463 with t3465 | t3466
                    · have AL3814 := sum_l AL3814
                      refine (quitrentlaw09_do.calls _ x3825 x3826 t2774.2.1 t2774.2.2.1 t2774.2.2.2.1 t2774.2.2.2.2.1 l1 x3820 ((rdOf (0, 0) l5 x3819).1) ((rdOf (0, 0) l5 x3819).2) g2819 g2820 A2821 ((t2774.2.2.2.2.2.2).length) n2823 A2 n3 A3821 n3823 (.inl t3465) _ ⟨Rd.pass  (by decide) (fun _ _ _ _ h => h) HR4.out HS.out⟩ ⟨Rd.ownI  HS.out 0 rfl⟩ ⟨HGl0.out.pass HS.out⟩ ⟨HS.out.begin⟩ HA3843).mono ?_
                      rintro e_ w3844 ⟨rfl, hS⟩
                      replace HS : Aside0 (Sep (fps []) w [b8 g2819 g2820 t2774.2.1 t2774.2.2.1 t2774.2.2.2.1 t2774.2.2.2.2.1, b7 g2820 A2821 ((t2774.2.2.2.2.2.2).length) n2823 t3465.2.1, r6 A2821 ((t2774.2.2.2.2.2.2).length) n2823 t3465.2.2, r14 A3821 x3820.length n3823 x3820, b17 g3833 ((rdOf (0, 0) l5 x3819).1) ((rdOf (0, 0) l5 x3819).2)] w3844) := ⟨HS.out.call hS⟩
                      clear hS
                      replace HS : Aside0 (Sep (fps []) w [b8 g2819 g2820 t2774.2.1 t2774.2.2.1 t2774.2.2.2.1 t2774.2.2.2.2.1, b7 g2820 A2821 ((t2774.2.2.2.2.2.2).length) n2823 t3465.2.1, r6 A2821 ((t2774.2.2.2.2.2.2).length) n2823 t3465.2.2, r14 A3821 x3820.length n3823 x3820] w3844) := ⟨HS.out.sub (.cons_cons _ (.cons_cons _ (.cons_cons _ (.cons_cons _ (.cons _ .slnil)))))⟩
                      go_wp2_with fail
                      obtain ⟨t3468, HA3845, AL3814⟩ := bind_some AL3814
                      refine (ground_Ground_Meter.calls t3465.2.2 t3465.2.1 t2774.2.1 t2774.2.2.1 t2774.2.2.2.1 t2774.2.2.2.2.1 g2819 g2820 A2821 ((t2774.2.2.2.2.2.2).length) n2823 t3468 _ ⟨HGl0.out.pass HS.out⟩ ⟨HS.out.begin⟩ HA3845).mono ?_
                      rintro e_ w3846 ⟨rfl, hS⟩
                      replace HS : Aside0 (Sep (fps []) w [b8 g2819 g2820 t2774.2.1 t2774.2.2.1 t2774.2.2.2.1 t2774.2.2.2.2.1, b7 g2820 A2821 ((t2774.2.2.2.2.2.2).length) n2823 t3465.2.1, r6 A2821 ((t2774.2.2.2.2.2.2).length) n2823 t3465.2.2, r14 A3821 x3820.length n3823 x3820] w3846) := ⟨HS.out.call hS⟩
                      clear hS
                      by_cases c3847 : t3465.1 = true
                      · replace AL3814 := if_yes c3847 AL3814
                        have c3847b0 : t3465.1 = true := c3847
                        have c3847b1 : (!t3465.1) = false := by rw [c3847b0]; rfl
                        try rw [c3847b1]
                        clear c3847
                        go_wp2_with fail
                        obtain ⟨t3742, HA3848, AL3814⟩ := bind_some AL3814
                        refine (quitrentlaw09_stands.calls _ t3465.2.2 t3465.2.1 t2774.2.1 t2774.2.2.1 t2774.2.2.2.1 t2774.2.2.2.2.1 l1 x3820 g2819 g2820 A2821 ((t2774.2.2.2.2.2.2).length) n2823 A2 n3 A3821 n3823 t3742 _ ⟨Rd.pass  (by decide) (fun _ _ _ _ h => h) HR4.out HS.out⟩ ⟨Rd.ownI  HS.out 0 rfl⟩ ⟨HGl0.out.pass HS.out⟩ ⟨HS.out.begin⟩ HA3848).mono ?_
                        rintro e_ w3849 ⟨rfl, hS⟩
                        replace HS : Aside0 (Sep (fps []) w [b8 g2819 g2820 t2774.2.1 t2774.2.2.1 t2774.2.2.2.1 t2774.2.2.2.2.1, b7 g2820 A2821 ((t2774.2.2.2.2.2.2).length) n2823 t3465.2.1, r6 A2821 ((t2774.2.2.2.2.2.2).length) n2823 t3465.2.2, r14 A3821 x3820.length n3823 x3820] w3849) := ⟨HS.out.call hS⟩
                        clear hS
                        by_cases c3850 : t3742 = true
                        · replace AL3814 := if_yes c3850 AL3814
                          have c3850b0 : t3742 = true := c3850
                          have c3850b1 : (!t3742) = false := by rw [c3850b0]; rfl
                          try rw [c3850b1]
                          clear c3850
                          go_wp2_with fail
                          obtain ⟨t3746, HA3851, AL3814⟩ := bind_some AL3814
                          refine (ring_List.calls _ t3465.2.2 t3465.2.1 t2774.2.1 t2774.2.2.1 t2774.2.2.2.1 t2774.2.2.2.2.1 g2819 g2820 A2821 ((t2774.2.2.2.2.2.2).length) n2823 t3746 _ ⟨HGl0.out.pass HS.out⟩ ⟨HS.out.begin⟩ HA3851).mono ?_
                          rintro e_ w3852 ⟨A3854, m3855, n3856, rfl, hS⟩
                          replace HS : Aside0 (Sep (fps []) w [b8 g2819 g2820 t2774.2.1 t2774.2.2.1 t2774.2.2.2.1 t2774.2.2.2.2.1, b7 g2820 A2821 ((t2774.2.2.2.2.2.2).length) n2823 t3465.2.1, r6 A2821 ((t2774.2.2.2.2.2.2).length) n2823 t3465.2.2, r14 A3854 m3855 n3856 t3746, r14 A3821 x3820.length n3823 x3820] w3852) := ⟨HS.out.call hS⟩
                          clear hS
                          obtain rfl := (row_len (HS.out.at3)).symm
                          go_wp2_with fail
                          obtain ⟨t3754, HA3858, AL3814⟩ := bind_some AL3814
                          refine (quitrentref01_Ints.calls _ t3746 x3820 A3854 n3856 A3821 n3823 t3754 _ ⟨Rd.ownI (l := []) HS.out 3 rfl⟩ ⟨Rd.ownI (l := []) HS.out 4 rfl⟩ ⟨HGl0.out.pass (l := []) HS.out⟩ ⟨Sep.start _⟩ HA3858).mono ?_
                          rintro e_ w3859 ⟨rfl, hS⟩
                          replace HS : Aside0 (Sep (fps []) w [b8 g2819 g2820 t2774.2.1 t2774.2.2.1 t2774.2.2.2.1 t2774.2.2.2.2.1, b7 g2820 A2821 ((t2774.2.2.2.2.2.2).length) n2823 t3465.2.1, r6 A2821 ((t2774.2.2.2.2.2.2).length) n2823 t3465.2.2, r14 A3854 t3746.length n3856 t3746, r14 A3821 x3820.length n3823 x3820] w3859) := ⟨HS.out.call hS⟩
                          clear hS
                          by_cases c3860 : t3754 = true
                          · replace AL3814 := if_yes c3860 AL3814
                            have c3860b0 : t3754 = true := c3860
                            have c3860b1 : (!t3754) = false := by rw [c3860b0]; rfl
                            try rw [c3860b1]
                            clear c3860
                            go_wp2_with fail
                            obtain ⟨t3758, HA3861, AL3814⟩ := bind_some AL3814
                            refine (ground_Ground_Meter.calls t3465.2.2 t3465.2.1 t2774.2.1 t2774.2.2.1 t2774.2.2.2.1 t2774.2.2.2.2.1 g2819 g2820 A2821 ((t2774.2.2.2.2.2.2).length) n2823 t3758 _ ⟨HGl0.out.pass HS.out⟩ ⟨HS.out.begin⟩ HA3861).mono ?_
                            rintro e_ w3862 ⟨rfl, hS⟩
                            replace HS : Aside0 (Sep (fps []) w [b8 g2819 g2820 t2774.2.1 t2774.2.2.1 t2774.2.2.2.1 t2774.2.2.2.2.1, b7 g2820 A2821 ((t2774.2.2.2.2.2.2).length) n2823 t3465.2.1, r6 A2821 ((t2774.2.2.2.2.2.2).length) n2823 t3465.2.2, r14 A3854 t3746.length n3856 t3746, r14 A3821 x3820.length n3823 x3820] w3862) := ⟨HS.out.call hS⟩
                            clear hS
                            by_cases c3863 : t3758 = t3468
                            · replace AL3814 := if_yes c3863 AL3814
                              have c3863b0 : (t3758 == t3468) = true := beq_iff_eq.mpr c3863
                              have c3863b1 : (t3758 != t3468) = false := bne_eq_false_iff_eq.mpr c3863
                              clear c3863
                              replace HS : Aside0 (Sep (fps []) w [b8 g2819 g2820 t2774.2.1 t2774.2.2.1 t2774.2.2.2.1 t2774.2.2.2.2.1, b7 g2820 A2821 ((t2774.2.2.2.2.2.2).length) n2823 t3465.2.1, r6 A2821 ((t2774.2.2.2.2.2.2).length) n2823 t3465.2.2, r14 A3821 x3820.length n3823 x3820] w3862) := ⟨HS.out.sub (.cons_cons _ (.cons_cons _ (.cons_cons _ (.cons _ (.cons_cons _ .slnil)))))⟩
                              go_wp2_with fail
                              go_roundg k3816
                              case measure => exact Nat.lt_succ_self _
                              case rel => exact ⟨(wrap64 (x3819 + 1)), (x3820), (t3465.2.2), (t3465.2.1), (A3821), (x3820.length), (n3823), (by first | rfl | (simp [IntKind.wrap_u32]; done)), (by first | rfl | (simp [IntKind.wrap_u32]; done)), Aside0.mk AL3814.out, ⟨(((((HS.out).front 2 (by simp)).front 2 (by simp)).front 2 (by simp)).front 3 (by simp)).keep (l := [r14 A3821 x3820.length n3823 x3820, b8 g2819 g2820 t2774.2.1 t2774.2.2.1 t2774.2.2.2.1 t2774.2.2.2.2.1, b7 g2820 A2821 ((t2774.2.2.2.2.2.2).length) n2823 t3465.2.1, r6 A2821 ((t2774.2.2.2.2.2.2).length) n2823 t3465.2.2]) (rest := [])⟩⟩
                            · replace AL3814 := if_no c3863 AL3814
                              have c3863b0 : (t3758 == t3468) = false := beq_eq_false_iff_ne.mpr c3863
                              have c3863b1 : (t3758 != t3468) = true := bne_iff_ne.mpr c3863
                              clear c3863
                              replace HS : Aside0 (Sep (fps []) w [b8 g2819 g2820 t2774.2.1 t2774.2.2.1 t2774.2.2.2.1 t2774.2.2.2.2.1, b7 g2820 A2821 ((t2774.2.2.2.2.2.2).length) n2823 t3465.2.1, r6 A2821 ((t2774.2.2.2.2.2.2).length) n2823 t3465.2.2, r14 A3821 x3820.length n3823 x3820] w3862) := ⟨HS.out.sub (.cons_cons _ (.cons_cons _ (.cons_cons _ (.cons _ (.cons_cons _ .slnil)))))⟩
                              go_wp2_with fail
                              have ho := some_eq AL3814
                              subst ho
                              have H := lp_ret H
                              go_ret
                              rw [← some_eq H]
                              exact ⟨(by first | rfl | (simp [IntKind.wrap_u32]; done)), HS.out.sub (.cons _ (.cons _ (.cons _ (.cons _ .slnil))))⟩
                          · replace AL3814 := if_no c3860 AL3814
                            have c3860b0 : t3754 = false := by simpa using c3860
                            have c3860b1 : (!t3754) = true := by rw [c3860b0]; rfl
                            try rw [c3860b1]
                            clear c3860
                            replace HS : Aside0 (Sep (fps []) w [b8 g2819 g2820 t2774.2.1 t2774.2.2.1 t2774.2.2.2.1 t2774.2.2.2.2.1, b7 g2820 A2821 ((t2774.2.2.2.2.2.2).length) n2823 t3465.2.1, r6 A2821 ((t2774.2.2.2.2.2.2).length) n2823 t3465.2.2, r14 A3821 x3820.length n3823 x3820] w3859) := ⟨HS.out.sub (.cons_cons _ (.cons_cons _ (.cons_cons _ (.cons _ (.cons_cons _ .slnil)))))⟩
                            go_wp2_with fail
                            have ho := some_eq AL3814
                            subst ho
                            have H := lp_ret H
                            go_ret
                            rw [← some_eq H]
                            exact ⟨(by first | rfl | (simp [IntKind.wrap_u32]; done)), HS.out.sub (.cons _ (.cons _ (.cons _ (.cons _ .slnil))))⟩
                        · replace AL3814 := if_no c3850 AL3814
                          have c3850b0 : t3742 = false := by simpa using c3850
                          have c3850b1 : (!t3742) = true := by rw [c3850b0]; rfl
                          try rw [c3850b1]
                          clear c3850
                          go_wp2_with fail
                          have ho := some_eq AL3814
                          subst ho
                          have H := lp_ret H
                          go_ret
                          rw [← some_eq H]
                          exact ⟨(by first | rfl | (simp [IntKind.wrap_u32]; done)), HS.out.sub (.cons _ (.cons _ (.cons _ (.cons _ .slnil))))⟩
                      · replace AL3814 := if_no c3847 AL3814
                        have c3847b0 : t3465.1 = false := by simpa using c3847
                        have c3847b1 : (!t3465.1) = true := by rw [c3847b0]; rfl
                        try rw [c3847b1]
                        clear c3847
                        go_wp2_with fail
                        have ho := some_eq AL3814
                        subst ho
                        have H := lp_ret H
                        go_ret
                        rw [← some_eq H]
                        exact ⟨(by first | rfl | (simp [IntKind.wrap_u32]; done)), HS.out.sub (.cons _ (.cons _ (.cons _ (.cons _ .slnil))))⟩
                    · have AL3814 := sum_r AL3814
                      refine (quitrentlaw09_do.calls _ x3825 x3826 t2774.2.1 t2774.2.2.1 t2774.2.2.2.1 t2774.2.2.2.2.1 l1 x3820 ((rdOf (0, 0) l5 x3819).1) ((rdOf (0, 0) l5 x3819).2) g2819 g2820 A2821 ((t2774.2.2.2.2.2.2).length) n2823 A2 n3 A3821 n3823 (.inr t3466) _ ⟨Rd.pass  (by decide) (fun _ _ _ _ h => h) HR4.out HS.out⟩ ⟨Rd.ownI  HS.out 0 rfl⟩ ⟨HGl0.out.pass HS.out⟩ ⟨HS.out.begin⟩ HA3843).mono ?_
                      rintro e_ w3864 ⟨A3866, m3867, n3868, rfl, hS⟩
                      replace HS : Aside0 (Sep (fps []) w [b8 g2819 g2820 t2774.2.1 t2774.2.2.1 t2774.2.2.2.1 t2774.2.2.2.2.1, b7 g2820 A2821 ((t2774.2.2.2.2.2.2).length) n2823 t3466.2.1, r6 A2821 ((t2774.2.2.2.2.2.2).length) n2823 t3466.2.2.1, r14 A3866 m3867 n3868 t3466.2.2.2, r14 A3821 x3820.length n3823 x3820, b17 g3833 ((rdOf (0, 0) l5 x3819).1) ((rdOf (0, 0) l5 x3819).2)] w3864) := ⟨HS.out.call hS⟩
                      clear hS
                      obtain rfl := (row_len (HS.out.at3)).symm
                      replace HS : Aside0 (Sep (fps []) w [b8 g2819 g2820 t2774.2.1 t2774.2.2.1 t2774.2.2.2.1 t2774.2.2.2.2.1, b7 g2820 A2821 ((t2774.2.2.2.2.2.2).length) n2823 t3466.2.1, r6 A2821 ((t2774.2.2.2.2.2.2).length) n2823 t3466.2.2.1, r14 A3866 ((t3466.2.2.2).length) n3868 t3466.2.2.2, r14 A3821 x3820.length n3823 x3820] w3864) := ⟨HS.out.sub (.cons_cons _ (.cons_cons _ (.cons_cons _ (.cons_cons _ (.cons_cons _ (.cons _ .slnil))))))⟩
                      go_wp2_with fail
                      obtain ⟨t3468, HA3870, AL3814⟩ := bind_some AL3814
                      refine (ground_Ground_Meter.calls t3466.2.2.1 t3466.2.1 t2774.2.1 t2774.2.2.1 t2774.2.2.2.1 t2774.2.2.2.2.1 g2819 g2820 A2821 ((t2774.2.2.2.2.2.2).length) n2823 t3468 _ ⟨HGl0.out.pass HS.out⟩ ⟨HS.out.begin⟩ HA3870).mono ?_
                      rintro e_ w3871 ⟨rfl, hS⟩
                      replace HS : Aside0 (Sep (fps []) w [b8 g2819 g2820 t2774.2.1 t2774.2.2.1 t2774.2.2.2.1 t2774.2.2.2.2.1, b7 g2820 A2821 ((t2774.2.2.2.2.2.2).length) n2823 t3466.2.1, r6 A2821 ((t2774.2.2.2.2.2.2).length) n2823 t3466.2.2.1, r14 A3866 ((t3466.2.2.2).length) n3868 t3466.2.2.2, r14 A3821 x3820.length n3823 x3820] w3871) := ⟨HS.out.call hS⟩
                      clear hS
                      by_cases c3872 : t3466.1 = true
                      · replace AL3814 := if_yes c3872 AL3814
                        have c3872b0 : t3466.1 = true := c3872
                        have c3872b1 : (!t3466.1) = false := by rw [c3872b0]; rfl
                        try rw [c3872b1]
                        clear c3872
                        go_wp2_with fail
                        obtain ⟨t3742, HA3873, AL3814⟩ := bind_some AL3814
                        refine (quitrentlaw09_stands.calls _ t3466.2.2.1 t3466.2.1 t2774.2.1 t2774.2.2.1 t2774.2.2.2.1 t2774.2.2.2.2.1 l1 t3466.2.2.2 g2819 g2820 A2821 ((t2774.2.2.2.2.2.2).length) n2823 A2 n3 A3866 n3868 t3742 _ ⟨Rd.pass  (by decide) (fun _ _ _ _ h => h) HR4.out HS.out⟩ ⟨Rd.ownI  HS.out 0 rfl⟩ ⟨HGl0.out.pass HS.out⟩ ⟨HS.out.begin⟩ HA3873).mono ?_
                        rintro e_ w3874 ⟨rfl, hS⟩
                        replace HS : Aside0 (Sep (fps []) w [b8 g2819 g2820 t2774.2.1 t2774.2.2.1 t2774.2.2.2.1 t2774.2.2.2.2.1, b7 g2820 A2821 ((t2774.2.2.2.2.2.2).length) n2823 t3466.2.1, r6 A2821 ((t2774.2.2.2.2.2.2).length) n2823 t3466.2.2.1, r14 A3866 ((t3466.2.2.2).length) n3868 t3466.2.2.2, r14 A3821 x3820.length n3823 x3820] w3874) := ⟨HS.out.call hS⟩
                        clear hS
                        by_cases c3875 : t3742 = true
                        · replace AL3814 := if_yes c3875 AL3814
                          have c3875b0 : t3742 = true := c3875
                          have c3875b1 : (!t3742) = false := by rw [c3875b0]; rfl
                          try rw [c3875b1]
                          clear c3875
                          go_wp2_with fail
                          obtain ⟨t3746, HA3876, AL3814⟩ := bind_some AL3814
                          refine (ring_List.calls _ t3466.2.2.1 t3466.2.1 t2774.2.1 t2774.2.2.1 t2774.2.2.2.1 t2774.2.2.2.2.1 g2819 g2820 A2821 ((t2774.2.2.2.2.2.2).length) n2823 t3746 _ ⟨HGl0.out.pass HS.out⟩ ⟨HS.out.begin⟩ HA3876).mono ?_
                          rintro e_ w3877 ⟨A3879, m3880, n3881, rfl, hS⟩
                          replace HS : Aside0 (Sep (fps []) w [b8 g2819 g2820 t2774.2.1 t2774.2.2.1 t2774.2.2.2.1 t2774.2.2.2.2.1, b7 g2820 A2821 ((t2774.2.2.2.2.2.2).length) n2823 t3466.2.1, r6 A2821 ((t2774.2.2.2.2.2.2).length) n2823 t3466.2.2.1, r14 A3879 m3880 n3881 t3746, r14 A3866 ((t3466.2.2.2).length) n3868 t3466.2.2.2, r14 A3821 x3820.length n3823 x3820] w3877) := ⟨HS.out.call hS⟩
                          clear hS
                          obtain rfl := (row_len (HS.out.at3)).symm
                          go_wp2_with fail
                          obtain ⟨t3754, HA3883, AL3814⟩ := bind_some AL3814
                          refine (quitrentref01_Ints.calls _ t3746 t3466.2.2.2 A3879 n3881 A3866 n3868 t3754 _ ⟨Rd.ownI (l := []) HS.out 3 rfl⟩ ⟨Rd.ownI (l := []) HS.out 4 rfl⟩ ⟨HGl0.out.pass (l := []) HS.out⟩ ⟨Sep.start _⟩ HA3883).mono ?_
                          rintro e_ w3884 ⟨rfl, hS⟩
                          replace HS : Aside0 (Sep (fps []) w [b8 g2819 g2820 t2774.2.1 t2774.2.2.1 t2774.2.2.2.1 t2774.2.2.2.2.1, b7 g2820 A2821 ((t2774.2.2.2.2.2.2).length) n2823 t3466.2.1, r6 A2821 ((t2774.2.2.2.2.2.2).length) n2823 t3466.2.2.1, r14 A3879 t3746.length n3881 t3746, r14 A3866 ((t3466.2.2.2).length) n3868 t3466.2.2.2, r14 A3821 x3820.length n3823 x3820] w3884) := ⟨HS.out.call hS⟩
                          clear hS
                          by_cases c3885 : t3754 = true
                          · replace AL3814 := if_yes c3885 AL3814
                            have c3885b0 : t3754 = true := c3885
                            have c3885b1 : (!t3754) = false := by rw [c3885b0]; rfl
                            try rw [c3885b1]
                            clear c3885
                            go_wp2_with fail
                            obtain ⟨t3758, HA3886, AL3814⟩ := bind_some AL3814
                            refine (ground_Ground_Meter.calls t3466.2.2.1 t3466.2.1 t2774.2.1 t2774.2.2.1 t2774.2.2.2.1 t2774.2.2.2.2.1 g2819 g2820 A2821 ((t2774.2.2.2.2.2.2).length) n2823 t3758 _ ⟨HGl0.out.pass HS.out⟩ ⟨HS.out.begin⟩ HA3886).mono ?_
                            rintro e_ w3887 ⟨rfl, hS⟩
                            replace HS : Aside0 (Sep (fps []) w [b8 g2819 g2820 t2774.2.1 t2774.2.2.1 t2774.2.2.2.1 t2774.2.2.2.2.1, b7 g2820 A2821 ((t2774.2.2.2.2.2.2).length) n2823 t3466.2.1, r6 A2821 ((t2774.2.2.2.2.2.2).length) n2823 t3466.2.2.1, r14 A3879 t3746.length n3881 t3746, r14 A3866 ((t3466.2.2.2).length) n3868 t3466.2.2.2, r14 A3821 x3820.length n3823 x3820] w3887) := ⟨HS.out.call hS⟩
                            clear hS
                            by_cases c3888 : t3758 = t3468
                            · replace AL3814 := if_yes c3888 AL3814
                              have c3888b0 : (t3758 == t3468) = true := beq_iff_eq.mpr c3888
                              have c3888b1 : (t3758 != t3468) = false := bne_eq_false_iff_eq.mpr c3888
                              clear c3888
                              replace HS : Aside0 (Sep (fps []) w [b8 g2819 g2820 t2774.2.1 t2774.2.2.1 t2774.2.2.2.1 t2774.2.2.2.2.1, b7 g2820 A2821 ((t2774.2.2.2.2.2.2).length) n2823 t3466.2.1, r6 A2821 ((t2774.2.2.2.2.2.2).length) n2823 t3466.2.2.1, r14 A3866 ((t3466.2.2.2).length) n3868 t3466.2.2.2, r14 A3821 x3820.length n3823 x3820] w3887) := ⟨HS.out.sub (.cons_cons _ (.cons_cons _ (.cons_cons _ (.cons _ (.cons_cons _ (.cons_cons _ .slnil))))))⟩
                              go_wp2_with fail
                              go_roundg k3816
                              case measure => exact Nat.lt_succ_self _
                              case rel => exact ⟨(wrap64 (x3819 + 1)), (t3466.2.2.2), (t3466.2.2.1), (t3466.2.1), (A3866), (((t3466.2.2.2).length)), (n3868), (by first | rfl | (simp [IntKind.wrap_u32]; done)), (by first | rfl | (simp [IntKind.wrap_u32]; done)), Aside0.mk AL3814.out, ⟨(((((HS.out).front 2 (by simp)).front 2 (by simp)).front 2 (by simp)).front 3 (by simp)).keep (l := [r14 A3866 ((t3466.2.2.2).length) n3868 t3466.2.2.2, b8 g2819 g2820 t2774.2.1 t2774.2.2.1 t2774.2.2.2.1 t2774.2.2.2.2.1, b7 g2820 A2821 ((t2774.2.2.2.2.2.2).length) n2823 t3466.2.1, r6 A2821 ((t2774.2.2.2.2.2.2).length) n2823 t3466.2.2.1]) (rest := [r14 A3821 x3820.length n3823 x3820])⟩⟩
                            · replace AL3814 := if_no c3888 AL3814
                              have c3888b0 : (t3758 == t3468) = false := beq_eq_false_iff_ne.mpr c3888
                              have c3888b1 : (t3758 != t3468) = true := bne_iff_ne.mpr c3888
                              clear c3888
                              replace HS : Aside0 (Sep (fps []) w [b8 g2819 g2820 t2774.2.1 t2774.2.2.1 t2774.2.2.2.1 t2774.2.2.2.2.1, b7 g2820 A2821 ((t2774.2.2.2.2.2.2).length) n2823 t3466.2.1, r6 A2821 ((t2774.2.2.2.2.2.2).length) n2823 t3466.2.2.1, r14 A3866 ((t3466.2.2.2).length) n3868 t3466.2.2.2, r14 A3821 x3820.length n3823 x3820] w3887) := ⟨HS.out.sub (.cons_cons _ (.cons_cons _ (.cons_cons _ (.cons _ (.cons_cons _ (.cons_cons _ .slnil))))))⟩
                              replace HS : Aside0 (Sep (fps []) w [b8 g2819 g2820 t2774.2.1 t2774.2.2.1 t2774.2.2.2.1 t2774.2.2.2.2.1, b7 g2820 A2821 ((t2774.2.2.2.2.2.2).length) n2823 t3466.2.1, r6 A2821 ((t2774.2.2.2.2.2.2).length) n2823 t3466.2.2.1, r14 A3821 x3820.length n3823 x3820] w3887) := ⟨HS.out.sub (.cons_cons _ (.cons_cons _ (.cons_cons _ (.cons _ (.cons_cons _ .slnil)))))⟩
                              go_wp2_with fail
                              have ho := some_eq AL3814
                              subst ho
                              have H := lp_ret H
                              go_ret
                              rw [← some_eq H]
                              exact ⟨(by first | rfl | (simp [IntKind.wrap_u32]; done)), HS.out.sub (.cons _ (.cons _ (.cons _ (.cons _ .slnil))))⟩
                          · replace AL3814 := if_no c3885 AL3814
                            have c3885b0 : t3754 = false := by simpa using c3885
                            have c3885b1 : (!t3754) = true := by rw [c3885b0]; rfl
                            try rw [c3885b1]
                            clear c3885
                            replace HS : Aside0 (Sep (fps []) w [b8 g2819 g2820 t2774.2.1 t2774.2.2.1 t2774.2.2.2.1 t2774.2.2.2.2.1, b7 g2820 A2821 ((t2774.2.2.2.2.2.2).length) n2823 t3466.2.1, r6 A2821 ((t2774.2.2.2.2.2.2).length) n2823 t3466.2.2.1, r14 A3866 ((t3466.2.2.2).length) n3868 t3466.2.2.2, r14 A3821 x3820.length n3823 x3820] w3884) := ⟨HS.out.sub (.cons_cons _ (.cons_cons _ (.cons_cons _ (.cons _ (.cons_cons _ (.cons_cons _ .slnil))))))⟩
                            replace HS : Aside0 (Sep (fps []) w [b8 g2819 g2820 t2774.2.1 t2774.2.2.1 t2774.2.2.2.1 t2774.2.2.2.2.1, b7 g2820 A2821 ((t2774.2.2.2.2.2.2).length) n2823 t3466.2.1, r6 A2821 ((t2774.2.2.2.2.2.2).length) n2823 t3466.2.2.1, r14 A3821 x3820.length n3823 x3820] w3884) := ⟨HS.out.sub (.cons_cons _ (.cons_cons _ (.cons_cons _ (.cons _ (.cons_cons _ .slnil)))))⟩
                            go_wp2_with fail
                            have ho := some_eq AL3814
                            subst ho
                            have H := lp_ret H
                            go_ret
                            rw [← some_eq H]
                            exact ⟨(by first | rfl | (simp [IntKind.wrap_u32]; done)), HS.out.sub (.cons _ (.cons _ (.cons _ (.cons _ .slnil))))⟩
                        · replace AL3814 := if_no c3875 AL3814
                          have c3875b0 : t3742 = false := by simpa using c3875
                          have c3875b1 : (!t3742) = true := by rw [c3875b0]; rfl
                          try rw [c3875b1]
                          clear c3875
                          replace HS : Aside0 (Sep (fps []) w [b8 g2819 g2820 t2774.2.1 t2774.2.2.1 t2774.2.2.2.1 t2774.2.2.2.2.1, b7 g2820 A2821 ((t2774.2.2.2.2.2.2).length) n2823 t3466.2.1, r6 A2821 ((t2774.2.2.2.2.2.2).length) n2823 t3466.2.2.1, r14 A3821 x3820.length n3823 x3820] w3874) := ⟨HS.out.sub (.cons_cons _ (.cons_cons _ (.cons_cons _ (.cons _ (.cons_cons _ .slnil)))))⟩
                          go_wp2_with fail
                          have ho := some_eq AL3814
                          subst ho
                          have H := lp_ret H
                          go_ret
                          rw [← some_eq H]
                          exact ⟨(by first | rfl | (simp [IntKind.wrap_u32]; done)), HS.out.sub (.cons _ (.cons _ (.cons _ (.cons _ .slnil))))⟩
                      · replace AL3814 := if_no c3872 AL3814
                        have c3872b0 : t3466.1 = false := by simpa using c3872
                        have c3872b1 : (!t3466.1) = true := by rw [c3872b0]; rfl
                        try rw [c3872b1]
                        clear c3872
                        replace HS : Aside0 (Sep (fps []) w [b8 g2819 g2820 t2774.2.1 t2774.2.2.1 t2774.2.2.2.1 t2774.2.2.2.2.1, b7 g2820 A2821 ((t2774.2.2.2.2.2.2).length) n2823 t3466.2.1, r6 A2821 ((t2774.2.2.2.2.2.2).length) n2823 t3466.2.2.1, r14 A3821 x3820.length n3823 x3820] w3871) := ⟨HS.out.sub (.cons_cons _ (.cons_cons _ (.cons_cons _ (.cons _ (.cons_cons _ .slnil)))))⟩
                        go_wp2_with fail
                        have ho := some_eq AL3814
                        subst ho
                        have H := lp_ret H
                        go_ret
                        rw [← some_eq H]
                        exact ⟨(by first | rfl | (simp [IntKind.wrap_u32]; done)), HS.out.sub (.cons _ (.cons _ (.cons _ (.cons _ .slnil))))⟩
                  · replace AL3814 := if_no c3828 AL3814
                    have c3828b0 : decide (0 ≤ x3819) = false := decide_eq_false c3828
                    clear c3828
                    exact (none_no AL3814).elim
                · replace AL3814 := if_no c3827 AL3814
                  have c3827b0 : decide (x3819 < (l5.length : Int)) = false := decide_eq_false c3827
                  clear c3827
                  have ho := some_eq AL3814
                  subst ho
                  clear AL3814
                  have H := lp_out H
                  go_wp2_with fail
                  obtain ⟨t2806, HA3889, H⟩ := bind_some H
                  refine (quitrentlaw09_begun.calls _ t2806 _ ⟨HGl0.out.pass (l := []) HS.out⟩ ⟨Sep.start _⟩ HA3889).mono ?_
                  rintro e_ w3890 ⟨rfl, hS⟩
                  replace HS : Aside0 (Sep (fps []) w [r14 A3821 x3820.length n3823 x3820, b8 g2819 g2820 t2774.2.1 t2774.2.2.1 t2774.2.2.2.1 t2774.2.2.2.2.1, b7 g2820 A2821 ((t2774.2.2.2.2.2.2).length) n2823 x3826, r6 A2821 ((t2774.2.2.2.2.2.2).length) n2823 x3825] w3890) := ⟨HS.out.call hS⟩
                  clear hS
                  replace HS : Aside0 (Sep (fps []) w [] w3890) := ⟨HS.out.sub (.cons _ (.cons _ (.cons _ (.cons _ .slnil))))⟩
                  go_wp2_with fail
                  go_ret
                  rw [← some_eq H]
                  exact ⟨(by first | rfl | (simp [IntKind.wrap_u32]; done)), HS.out⟩
          · replace H := if_no c2825 H
            have c2825b0 : t2774.1 = false := by simpa using c2825
            have c2825b1 : (!t2774.1) = true := by rw [c2825b0]; rfl
            try rw [c2825b1]
            clear c2825
            replace HS : Aside0 (Sep (fps []) w [] w2815) := ⟨HS.out.sub (.cons _ (.cons _ (.cons _ .slnil)))⟩
            go_wp2_with fail
            go_ret
            rw [← some_eq H]
            exact ⟨(by first | rfl | (simp [IntKind.wrap_u32]; done)), HS.out⟩
end Go.Proofs.YtobeonkddamnoaaDoor.C

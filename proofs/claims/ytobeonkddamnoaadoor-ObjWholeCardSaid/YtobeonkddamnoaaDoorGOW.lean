/- Each function of the group OW does what its plain function says, and changes nothing that was there; proved by walking its code. No condition. -/
import Derived.Test.YtobeonkddamnoaaDoorQw
import Derived.Test.YtobeonkddamnoaaDoorMOW
import Derived.Test.YtobeonkddamnoaaDoorGOW0
import Derived.Test.YtobeonkddamnoaaDoorGOW1
import Derived.Test.YtobeonkddamnoaaDoorGOW2
namespace Go.Proofs.YtobeonkddamnoaaDoor.C
open Go.RowKit Go.Proofs.YtobeonkddamnoaaDoorW.PrintWords Go.Proofs.YtobeonkddamnoaaDoorW.PrintLast Go.Proofs.YtobeonkddamnoaaDoor.Q Go.Proofs.YtobeonkddamnoaaDoor.M
set_option linter.unusedVariables false
set_option linter.unusedSimpArgs false
set_option maxHeartbeats 30000000 in
set_option maxRecDepth 100000 in
theorem quitrentlaw11_ObjWhole.calls (k : Nat) (a1 : Int) (l2 : List (Int × Int)) (a6 : Int) (A3 : Option Addr) (n4 : Nat) (r : Bool) (w : World) (HR5 : Aside0 (Rd s18 (fps []) w A3 l2.length l2)) (HGl0 : Aside0 (Gl 0 #[.int .i64 0, .int .i64 0, .int .i64 0, .int .i64 0, .int .i64 0] (fps []) w)) (HS : Aside0 (Sep (fps []) w [] w)) (H : Aside0 (quitrentlaw11_ObjWhole.f k a1 l2 a6 = some r)) :
    Calls Tryd.prog 9 #[.int .u8 a1, .slice A3 l2.length n4, .int .u8 a6] w fun e w' => e = .returned (.bool r) ∧ Sep (fps []) w [] w' := by
  unfold quitrentlaw11_ObjWhole.f at H
  go_enter Tryd.func9, Tryd.ntmps9
  by_cases c7 : a1 < 1
  · replace H := if_yes c7 H
    have c7b0 : decide (a1 < 1) = true := decide_eq_true c7
    clear c7
    go_wp2_with fail
    obtain ⟨t3659, HA3660, H⟩ := bind_some H
    refine (quitrentlaw11_begun.calls _ t3659 _ ⟨HGl0.out.pass (l := []) HS.out⟩ ⟨Sep.start _⟩ HA3660).mono ?_
    rintro e_ w3661 ⟨rfl, hS⟩
    replace HS : Aside0 (Sep (fps []) w [] w3661) := ⟨HS.out.call hS⟩
    clear hS
    go_wp2_with fail
    go_ret
    rw [← some_eq H]
    exact ⟨(by first | rfl | (simp [IntKind.wrap_u32]; done)), HS.out⟩
  · replace H := if_no c7 H
    have c7b0 : decide (a1 < 1) = false := decide_eq_false c7
    clear c7
    by_cases c3662 : a1 > 60
    · replace H := if_yes c3662 H
      have c3662b0 : decide (60 < a1) = true := decide_eq_true c3662
      clear c3662
      go_wp2_with fail
      obtain ⟨t3659, HA3663, H⟩ := bind_some H
      refine (quitrentlaw11_begun.calls _ t3659 _ ⟨HGl0.out.pass (l := []) HS.out⟩ ⟨Sep.start _⟩ HA3663).mono ?_
      rintro e_ w3664 ⟨rfl, hS⟩
      replace HS : Aside0 (Sep (fps []) w [] w3664) := ⟨HS.out.call hS⟩
      clear hS
      go_wp2_with fail
      go_ret
      rw [← some_eq H]
      exact ⟨(by first | rfl | (simp [IntKind.wrap_u32]; done)), HS.out⟩
    · replace H := if_no c3662 H
      have c3662b0 : decide (60 < a1) = false := decide_eq_false c3662
      clear c3662
      by_cases c3665 : (l2.length : Int) > 40
      · replace H := if_yes c3665 H
        have c3665b0 : decide (40 < (l2.length : Int)) = true := decide_eq_true c3665
        have c3665b1 : decide (40 < l2.length) = true := decide_eq_true (by omega)
        clear c3665
        go_wp2_with fail
        obtain ⟨t3659, HA3666, H⟩ := bind_some H
        refine (quitrentlaw11_begun.calls _ t3659 _ ⟨HGl0.out.pass (l := []) HS.out⟩ ⟨Sep.start _⟩ HA3666).mono ?_
        rintro e_ w3667 ⟨rfl, hS⟩
        replace HS : Aside0 (Sep (fps []) w [] w3667) := ⟨HS.out.call hS⟩
        clear hS
        go_wp2_with fail
        go_ret
        rw [← some_eq H]
        exact ⟨(by first | rfl | (simp [IntKind.wrap_u32]; done)), HS.out⟩
      · replace H := if_no c3665 H
        have c3665b0 : decide (40 < (l2.length : Int)) = false := decide_eq_false c3665
        have c3665b1 : decide (40 < l2.length) = false := decide_eq_false (by omega)
        clear c3665
        go_wp2_with fail
        obtain ⟨t3668, HA3669, H⟩ := bind_some H
        rcases t3668 with t3670 | t3671
        · have H := sum_l H
          refine (quitrentlaw11_opened.calls _ (wrap64 (a1)) 16 1 1 (.inl t3670) _ ⟨HGl0.out.pass (l := []) HS.out⟩ ⟨Sep.start _⟩ HA3669).mono ?_
          rintro e_ w3672 ⟨rfl, hS⟩
          replace HS : Aside0 (Sep (fps []) w [] w3672) := ⟨HS.out.call hS⟩
          clear hS
          by_cases c3673 : t3670 = true
          · replace H := if_yes c3673 H
            have c3673b0 : t3670 = true := c3673
            have c3673b1 : (!t3670) = false := by rw [c3673b0]; rfl
            try rw [c3673b1]
            clear c3673
            go_wp2_with fail
            replace HS : Aside0 (Sep (fps []) w [r17 none 0 0 []] w3672) := ⟨HS.out.nilrow 3 (Value.int .i64)⟩
            obtain ⟨o3675, AL3676, H⟩ := bind_some H
            go_loopg [9, 43] k (fun kq v9 v43 wc => ∃ (x3681 : Int) (x3682 : List Int) (A3683 : Option Addr) (m3684 : Nat) (n3685 : Nat), v9 = .slice A3683 m3684 n3685 ∧ v43 = .int .i64 x3681 ∧ Aside0 (quitrentlaw11_ObjWhole.lo0 kq l2 x3681 x3682 = some o3675) ∧ Aside0 (Sep (fps []) w [r17 A3683 m3684 n3685 x3682] wc))
            case atStart => exact ⟨(0), (([] : List Int)), (none), (0), (0), (by first | rfl | (simp [IntKind.wrap_u32]; done)), (by first | rfl | (simp [IntKind.wrap_u32]; done)), AL3676, ⟨HS.out⟩⟩
            case round =>
              clear AL3676 HS
              obtain ⟨x3681, x3682, A3683, m3684, n3685, rfl, rfl, AL3676, HS⟩ := hrel
              obtain ⟨w3677, rfl⟩ : ∃ x : World, x = wr := ⟨_, rfl⟩
              obtain rfl := (row_len (HS.out.at0)).symm
              cases gk with
              | zero => exact absurd AL3676.out (by simp [quitrentlaw11_ObjWhole.lo0])
              | succ k3678 =>
                have AL0 := AL3676.out
                rw [quitrentlaw11_ObjWhole.lo0] at AL0
                clear AL3676
                have AL3676 := Aside0.mk AL0
                clear AL0
                by_cases c3687 : x3681 < (l2.length : Int)
                · replace AL3676 := if_yes c3687 AL3676
                  have c3687b0 : decide (x3681 < (l2.length : Int)) = true := decide_eq_true c3687
                  clear c3687
                  have ip3689 : (x3681 < (l2.length : Int)) = True := eq_true (of_decide_eq_true c3687b0)
                  exact (none_no AL3676).elim
                · replace AL3676 := if_no c3687 AL3676
                  have c3687b0 : decide (x3681 < (l2.length : Int)) = false := decide_eq_false c3687
                  clear c3687
                  have ho := some_eq AL3676
                  subst ho
                  clear AL3676
                  exact (none_no H).elim
          · replace H := if_no c3673 H
            have c3673b0 : t3670 = false := by simpa using c3673
            have c3673b1 : (!t3670) = true := by rw [c3673b0]; rfl
            try rw [c3673b1]
            clear c3673
            go_wp2_with fail
            go_ret
            rw [← some_eq H]
            exact ⟨(by first | rfl | (simp [IntKind.wrap_u32]; done)), HS.out⟩
        · have H := sum_r H
          refine (quitrentlaw11_opened.calls _ (wrap64 (a1)) 16 1 1 (.inr t3671) _ ⟨HGl0.out.pass (l := []) HS.out⟩ ⟨Sep.start _⟩ HA3669).mono ?_
          rintro e_ w3719 ⟨g3723, rfl, g3724, A3725, m3726, n3727, hS⟩
          replace HS : Aside0 (Sep (fps []) w [b7 g3723 g3724 t3671.2.1 t3671.2.2.1 t3671.2.2.2.1 t3671.2.2.2.2.1, b6 g3724 A3725 m3726 n3727 t3671.2.2.2.2.2.1, r5 A3725 m3726 n3727 t3671.2.2.2.2.2.2] w3719) := ⟨HS.out.call hS⟩
          clear hS
          obtain rfl := (row_len (HS.out.at2)).symm
          by_cases c3729 : t3671.1 = true
          · replace H := if_yes c3729 H
            have c3729b0 : t3671.1 = true := c3729
            have c3729b1 : (!t3671.1) = false := by rw [c3729b0]; rfl
            try rw [c3729b1]
            clear c3729
            go_wp2_with fail
            replace HS : Aside0 (Sep (fps []) w [r17 none 0 0 [], b7 g3723 g3724 t3671.2.1 t3671.2.2.1 t3671.2.2.2.1 t3671.2.2.2.2.1, b6 g3724 A3725 ((t3671.2.2.2.2.2.2).length) n3727 t3671.2.2.2.2.2.1, r5 A3725 ((t3671.2.2.2.2.2.2).length) n3727 t3671.2.2.2.2.2.2] w3719) := ⟨HS.out.nilrow 3 (Value.int .i64)⟩
            obtain ⟨o3820, AL3821, H⟩ := bind_some H
            go_loopg [9, 43] k (fun kq v9 v43 wc => ∃ (x3826 : Int) (x3827 : List Int) (x3832 : List Int) (x3833 : Int) (A3828 : Option Addr) (m3829 : Nat) (n3830 : Nat), v9 = .slice A3828 m3829 n3830 ∧ v43 = .int .i64 x3826 ∧ Aside0 (quitrentlaw11_ObjWhole.lo1 kq l2 t3671 x3826 x3827 x3832 x3833 = some o3820) ∧ Aside0 (Sep (fps []) w [r17 A3828 m3829 n3830 x3827, b7 g3723 g3724 t3671.2.1 t3671.2.2.1 t3671.2.2.2.1 t3671.2.2.2.2.1, b6 g3724 A3725 ((t3671.2.2.2.2.2.2).length) n3727 x3833, r5 A3725 ((t3671.2.2.2.2.2.2).length) n3727 x3832] wc))
            case atStart => exact ⟨(0), (([] : List Int)), (t3671.2.2.2.2.2.2), (t3671.2.2.2.2.2.1), (none), (0), (0), (by first | rfl | (simp [IntKind.wrap_u32]; done)), (by first | rfl | (simp [IntKind.wrap_u32]; done)), AL3821, ⟨HS.out⟩⟩
            case round =>
              clear AL3821 HS
              obtain ⟨x3826, x3827, x3832, x3833, A3828, m3829, n3830, rfl, rfl, AL3821, HS⟩ := hrel
              obtain ⟨w3822, rfl⟩ : ∃ x : World, x = wr := ⟨_, rfl⟩
              obtain rfl := (row_len (HS.out.at0)).symm
              cases gk with
              | zero => exact absurd AL3821.out (by simp [quitrentlaw11_ObjWhole.lo1])
              | succ k3823 =>
                have AL0 := AL3821.out
                rw [quitrentlaw11_ObjWhole.lo1] at AL0
                clear AL3821
                have AL3821 := Aside0.mk AL0
                clear AL0
                by_cases c3834 : x3826 < (l2.length : Int)
                · replace AL3821 := if_yes c3834 AL3821
                  have c3834b0 : decide (x3826 < (l2.length : Int)) = true := decide_eq_true c3834
                  clear c3834
                  by_cases c3835 : 0 ≤ x3826
                  · replace AL3821 := if_yes c3835 AL3821
                    have c3835b0 : decide (0 ≤ x3826) = true := decide_eq_true c3835
                    have c3835p : (0 ≤ x3826) = True := eq_true c3835
                    clear c3835
                    have ip3836 : (x3826 < (l2.length : Int)) = True := eq_true (of_decide_eq_true c3834b0)
                    obtain ⟨hx3837a, hx3837e, hx3838, hx3839⟩ := s18_at HR5.out HS.out.fr x3826 (of_decide_eq_true c3835b0) (of_decide_eq_true c3834b0); cases hx3837e
                    go_wp2_with (first | ((with_reducible refine gate_dst (N := 11) rfl ?_); refine box_on ?hg (N := 11) ?hd (cs := #[.int .i64 0, .int .i64 0]) (t := 63) ?hr ?_; (case hd => rfl); (case hg => rfl); (case hr => first | (go_simp; done) | (go_simp; rfl)); intro g3840 hg w3841 hbox hb; clear hx3838 hx3839; replace HS : Aside0 (Sep (fps []) w [r17 A3828 x3827.length n3830 x3827, b7 g3723 g3724 t3671.2.1 t3671.2.2.1 t3671.2.2.2.1 t3671.2.2.2.2.1, b6 g3724 A3725 ((t3671.2.2.2.2.2.2).length) n3727 x3833, r5 A3725 ((t3671.2.2.2.2.2.2).length) n3727 x3832, b19 g3840 0 0] w3841) := ⟨HS.out.box hg hbox hb⟩; clear hg hbox hb; have hc3843 : w3841.cell? ⟨g3840, 0, none⟩ = some (.int .i64 0) := blk_cellv (HS.out.at4) 0 rfl; have hz3844 : w3841.frozen? ⟨g3840, 0, none⟩ = false := blk_fz (HS.out.at4) 0; have hc3845 : w3841.cell? ⟨g3840, 1, none⟩ = some (.int .i64 0) := blk_cellv (HS.out.at4) 1 rfl; have hz3846 : w3841.frozen? ⟨g3840, 1, none⟩ = false := blk_fz (HS.out.at4) 1) | ((with_reducible refine gate_store (t := 63) (p := 11) rfl ?_); refine store_event (w1 := (World.setCell (World.setCell w3841 ⟨g3840, 0, none⟩ (.int .i64 ((rdOf (0, 0) l2 x3826).1))) ⟨g3840, 1, none⟩ (.int .i64 ((rdOf (0, 0) l2 x3826).2)))) rfl (t := 63) (p := 11) rfl rfl ?hr ?_; (case hr => first | (go_simp; done) | (go_simp; rfl)); intro w3847 hst; clear hc3843 hz3844 hc3845 hz3846; have hq0 : Sep (fps []) w [r17 A3828 x3827.length n3830 x3827, b7 g3723 g3724 t3671.2.1 t3671.2.2.1 t3671.2.2.2.1 t3671.2.2.2.2.1, b6 g3724 A3725 ((t3671.2.2.2.2.2.2).length) n3727 x3833, r5 A3725 ((t3671.2.2.2.2.2.2).length) n3727 x3832, b19 g3840 ((rdOf (0, 0) l2 x3826).1) 0] (World.setCell w3841 ⟨g3840, 0, none⟩ (.int .i64 ((rdOf (0, 0) l2 x3826).1))) := (HS.out).set1 (l1 := [r17 A3828 x3827.length n3830 x3827, b7 g3723 g3724 t3671.2.1 t3671.2.2.1 t3671.2.2.2.1 t3671.2.2.2.2.1, b6 g3724 A3725 ((t3671.2.2.2.2.2.2).length) n3727 x3833, r5 A3725 ((t3671.2.2.2.2.2.2).length) n3727 x3832]) (l2 := []) 0 (.int .i64 ((rdOf (0, 0) l2 x3826).1)); have hq1 : Sep (fps []) w [r17 A3828 x3827.length n3830 x3827, b7 g3723 g3724 t3671.2.1 t3671.2.2.1 t3671.2.2.2.1 t3671.2.2.2.2.1, b6 g3724 A3725 ((t3671.2.2.2.2.2.2).length) n3727 x3833, r5 A3725 ((t3671.2.2.2.2.2.2).length) n3727 x3832, b19 g3840 ((rdOf (0, 0) l2 x3826).1) ((rdOf (0, 0) l2 x3826).2)] (World.setCell (World.setCell w3841 ⟨g3840, 0, none⟩ (.int .i64 ((rdOf (0, 0) l2 x3826).1))) ⟨g3840, 1, none⟩ (.int .i64 ((rdOf (0, 0) l2 x3826).2))) := (hq0).set1 (l1 := [r17 A3828 x3827.length n3830 x3827, b7 g3723 g3724 t3671.2.1 t3671.2.2.1 t3671.2.2.2.1 t3671.2.2.2.2.1, b6 g3724 A3725 ((t3671.2.2.2.2.2.2).length) n3727 x3833, r5 A3725 ((t3671.2.2.2.2.2.2).length) n3727 x3832]) (l2 := []) 1 (.int .i64 ((rdOf (0, 0) l2 x3826).2)); replace HS : Aside0 (Sep (fps []) w [r17 A3828 x3827.length n3830 x3827, b7 g3723 g3724 t3671.2.1 t3671.2.2.1 t3671.2.2.2.1 t3671.2.2.2.2.1, b6 g3724 A3725 ((t3671.2.2.2.2.2.2).length) n3727 x3833, r5 A3725 ((t3671.2.2.2.2.2.2).length) n3727 x3832, b19 g3840 ((rdOf (0, 0) l2 x3826).1) ((rdOf (0, 0) l2 x3826).2)] w3847) := ⟨by rw [hst]; exact hq1⟩; clear hq0 hq1; clear hst))
                    replace HS : Aside0 (Sep (fps []) w [r5 A3725 ((t3671.2.2.2.2.2.2).length) n3727 x3832, r17 A3828 x3827.length n3830 x3827, b7 g3723 g3724 t3671.2.1 t3671.2.2.1 t3671.2.2.2.1 t3671.2.2.2.2.1, b6 g3724 A3725 ((t3671.2.2.2.2.2.2).length) n3727 x3833, b19 g3840 ((rdOf (0, 0) l2 x3826).1) ((rdOf (0, 0) l2 x3826).2)] w3847) := ⟨HS.out.front 3 (by simp)⟩
                    replace HS : Aside0 (Sep (fps []) w [b6 g3724 A3725 ((t3671.2.2.2.2.2.2).length) n3727 x3833, r5 A3725 ((t3671.2.2.2.2.2.2).length) n3727 x3832, r17 A3828 x3827.length n3830 x3827, b7 g3723 g3724 t3671.2.1 t3671.2.2.1 t3671.2.2.2.1 t3671.2.2.2.2.1, b19 g3840 ((rdOf (0, 0) l2 x3826).1) ((rdOf (0, 0) l2 x3826).2)] w3847) := ⟨HS.out.front 3 (by simp)⟩
                    replace HS : Aside0 (Sep (fps []) w [b7 g3723 g3724 t3671.2.1 t3671.2.2.1 t3671.2.2.2.1 t3671.2.2.2.2.1, b6 g3724 A3725 ((t3671.2.2.2.2.2.2).length) n3727 x3833, r5 A3725 ((t3671.2.2.2.2.2.2).length) n3727 x3832, r17 A3828 x3827.length n3830 x3827, b19 g3840 ((rdOf (0, 0) l2 x3826).1) ((rdOf (0, 0) l2 x3826).2)] w3847) := ⟨HS.out.front 3 (by simp)⟩
                    obtain ⟨t3757, HA3848, AL3821⟩ := bind_some AL3821
                    refine (pool_Len.calls x3832 x3833 t3671.2.1 t3671.2.2.1 t3671.2.2.2.1 t3671.2.2.2.2.1 g3723 g3724 A3725 ((t3671.2.2.2.2.2.2).length) n3727 t3757 _ ⟨HGl0.out.pass HS.out⟩ ⟨HS.out.begin⟩ HA3848).mono ?_
                    rintro e_ w3849 ⟨rfl, hS⟩
                    replace HS : Aside0 (Sep (fps []) w [b7 g3723 g3724 t3671.2.1 t3671.2.2.1 t3671.2.2.2.1 t3671.2.2.2.2.1, b6 g3724 A3725 ((t3671.2.2.2.2.2.2).length) n3727 t3757.2, r5 A3725 ((t3671.2.2.2.2.2.2).length) n3727 x3832, r17 A3828 x3827.length n3830 x3827, b19 g3840 ((rdOf (0, 0) l2 x3826).1) ((rdOf (0, 0) l2 x3826).2)] w3849) := ⟨HS.out.call hS⟩
                    clear hS
                    have hc3850 : w3849.cell? ⟨g3840, 0, none⟩ = some (.int .i64 ((rdOf (0, 0) l2 x3826).1)) := blk_cellv (HS.out.at4) 0 rfl
                    have hc3851 : w3849.cell? ⟨g3840, 1, none⟩ = some (.int .i64 ((rdOf (0, 0) l2 x3826).2)) := blk_cellv (HS.out.at4) 1 rfl
                    go_wp2_with fail
                    clear hc3850 hc3851
                    obtain ⟨t3762, HA3852, AL3821⟩ := bind_some AL3821
                    refine (obj_Make.calls _ x3832 t3757.2 t3671.2.1 t3671.2.2.1 t3671.2.2.2.1 t3671.2.2.2.2.1 ((rdOf (0, 0) l2 x3826).1) ((rdOf (0, 0) l2 x3826).2) g3723 g3724 A3725 ((t3671.2.2.2.2.2.2).length) n3727 t3762 _ ⟨HGl0.out.pass HS.out⟩ ⟨HS.out.begin⟩ HA3852).mono ?_
                    rintro e_ w3853 ⟨rfl, hS⟩
                    replace HS : Aside0 (Sep (fps []) w [b7 g3723 g3724 t3671.2.1 t3671.2.2.1 t3671.2.2.2.1 t3671.2.2.2.2.1, b6 g3724 A3725 ((t3671.2.2.2.2.2.2).length) n3727 t3762.2.2.1, r5 A3725 ((t3671.2.2.2.2.2.2).length) n3727 t3762.2.2.2, r17 A3828 x3827.length n3830 x3827, b19 g3840 ((rdOf (0, 0) l2 x3826).1) ((rdOf (0, 0) l2 x3826).2)] w3853) := ⟨HS.out.call hS⟩
                    clear hS
                    by_cases c3854 : t3762.2.1 = 0
                    · replace AL3821 := if_yes c3854 AL3821
                      have c3854b0 : (t3762.2.1 == 0) = true := beq_iff_eq.mpr c3854
                      have c3854b1 : (t3762.2.1 != 0) = false := bne_eq_false_iff_eq.mpr c3854
                      clear c3854
                      replace HS : Aside0 (Sep (fps []) w [b7 g3723 g3724 t3671.2.1 t3671.2.2.1 t3671.2.2.2.1 t3671.2.2.2.2.1, b6 g3724 A3725 ((t3671.2.2.2.2.2.2).length) n3727 t3762.2.2.1, r5 A3725 ((t3671.2.2.2.2.2.2).length) n3727 t3762.2.2.2, r17 A3828 x3827.length n3830 x3827] w3853) := ⟨HS.out.sub (.cons_cons _ (.cons_cons _ (.cons_cons _ (.cons_cons _ (.cons _ .slnil)))))⟩
                      go_wp2_with fail
                      obtain ⟨t3766, HA3855, AL3821⟩ := bind_some AL3821
                      refine (obj_Blocks.calls _ t3762.2.2.2 t3762.2.2.1 t3671.2.1 t3671.2.2.1 t3671.2.2.2.1 t3671.2.2.2.2.1 t3762.1 g3723 g3724 A3725 ((t3671.2.2.2.2.2.2).length) n3727 t3766 _ ⟨HGl0.out.pass HS.out⟩ ⟨HS.out.begin⟩ HA3855).mono ?_
                      rintro e_ w3856 ⟨rfl, hS⟩
                      replace HS : Aside0 (Sep (fps []) w [b7 g3723 g3724 t3671.2.1 t3671.2.2.1 t3671.2.2.2.1 t3671.2.2.2.2.1, b6 g3724 A3725 ((t3671.2.2.2.2.2.2).length) n3727 t3766.2, r5 A3725 ((t3671.2.2.2.2.2.2).length) n3727 t3762.2.2.2, r17 A3828 x3827.length n3830 x3827] w3856) := ⟨HS.out.call hS⟩
                      clear hS
                      by_cases c3857 : t3766.1 < 1
                      · replace AL3821 := if_yes c3857 AL3821
                        have c3857b0 : decide (t3766.1 < 1) = true := decide_eq_true c3857
                        clear c3857
                        go_wp2_with fail
                        have ho := some_eq AL3821
                        subst ho
                        have H := lp_ret H
                        go_ret
                        rw [← some_eq H]
                        exact ⟨(by first | rfl | (simp [IntKind.wrap_u32]; done)), HS.out.sub (.cons _ (.cons _ (.cons _ (.cons _ .slnil))))⟩
                      · replace AL3821 := if_no c3857 AL3821
                        have c3857b0 : decide (t3766.1 < 1) = false := decide_eq_false c3857
                        clear c3857
                        go_wp2_with fail
                        obtain ⟨t3806, HA3858, AL3821⟩ := bind_some AL3821
                        refine (pool_Len.calls t3762.2.2.2 t3766.2 t3671.2.1 t3671.2.2.1 t3671.2.2.2.1 t3671.2.2.2.2.1 g3723 g3724 A3725 ((t3671.2.2.2.2.2.2).length) n3727 t3806 _ ⟨HGl0.out.pass HS.out⟩ ⟨HS.out.begin⟩ HA3858).mono ?_
                        rintro e_ w3859 ⟨rfl, hS⟩
                        replace HS : Aside0 (Sep (fps []) w [b7 g3723 g3724 t3671.2.1 t3671.2.2.1 t3671.2.2.2.1 t3671.2.2.2.2.1, b6 g3724 A3725 ((t3671.2.2.2.2.2.2).length) n3727 t3806.2, r5 A3725 ((t3671.2.2.2.2.2.2).length) n3727 t3762.2.2.2, r17 A3828 x3827.length n3830 x3827] w3859) := ⟨HS.out.call hS⟩
                        clear hS
                        by_cases c3860 : t3806.1 = (wrap64 (t3757.1 - t3766.1))
                        · replace AL3821 := if_yes c3860 AL3821
                          have c3860b0 : (t3806.1 == (wrap64 (t3757.1 - t3766.1))) = true := beq_iff_eq.mpr c3860
                          have c3860b1 : (t3806.1 != (wrap64 (t3757.1 - t3766.1))) = false := bne_eq_false_iff_eq.mpr c3860
                          clear c3860
                          by_cases c3864 : x3827.length < 17592186044416
                          · replace AL3821 := if_yes c3864 AL3821
                            have c3864b0 : decide (x3827.length < 17592186044416) = true := decide_eq_true c3864
                            clear c3864
                            obtain ⟨y3817, HA3868, AL3821⟩ := bind_some AL3821
                            go_wp2_with (first | ((with_reducible refine gate_dst (N := 83) rfl ?_); refine slice_on (n := 1) ?hg (N := 83) ?hd (cs := #[.int .i64 t3762.1]) (t := 3) ?hr ?_; (case hd => rfl); (case hg => rfl); (case hr => first | (go_simp; done) | (go_simp; rfl)); intro g3861 hg w3862 hbox hb; replace HS : Aside0 (Sep (fps []) w [b7 g3723 g3724 t3671.2.1 t3671.2.2.1 t3671.2.2.2.1 t3671.2.2.2.2.1, b6 g3724 A3725 ((t3671.2.2.2.2.2.2).length) n3727 t3806.2, r5 A3725 ((t3671.2.2.2.2.2.2).length) n3727 t3762.2.2.2, r17 A3828 x3827.length n3830 x3827, b10 g3861 t3762.1] w3862) := ⟨HS.out.box hg hbox hb⟩; clear hg hbox hb) | ((with_reducible refine gate_dst (N := 84) rfl ?_); refine append_event (l1 := [b7 g3723 g3724 t3671.2.1 t3671.2.2.1 t3671.2.2.2.1 t3671.2.2.2.2.1, b6 g3724 A3725 ((t3671.2.2.2.2.2.2).length) n3727 t3806.2, r5 A3725 ((t3671.2.2.2.2.2.2).length) n3727 t3762.2.2.2]) (l2 := [b10 g3861 t3762.1]) rfl (.tmp 81) (.tmp 83) 49 3 (.int .i64 0) 8 rfl Tryd.underlying49 (by kernel_rfl) rfl (by decide) (Value.int .i64) (fun _ => rfl) (.slice A3828 x3827.length n3830) (x3827 : List Int) [t3762.1] ⟨g3861, 0, none⟩ 1 rfl rfl (blk_news (xs := [t3762.1]) (HS.out.at4)) HS.out (by have := of_decide_eq_true c3864b0; simp only [List.length_cons, List.length_nil]; omega) HA3868 ?_; intro A3865 n3866 w3867 HS1; replace HS : Aside0 (Sep (fps []) w [b7 g3723 g3724 t3671.2.1 t3671.2.2.1 t3671.2.2.2.1 t3671.2.2.2.2.1, b6 g3724 A3725 ((t3671.2.2.2.2.2.2).length) n3727 t3806.2, r5 A3725 ((t3671.2.2.2.2.2.2).length) n3727 t3762.2.2.2, r17 A3865 y3817.length n3866 y3817, b10 g3861 t3762.1] w3867) := ⟨HS1⟩; clear HS1; replace HS : Aside0 (Sep (fps []) w [b7 g3723 g3724 t3671.2.1 t3671.2.2.1 t3671.2.2.2.1 t3671.2.2.2.2.1, b6 g3724 A3725 ((t3671.2.2.2.2.2.2).length) n3727 t3806.2, r5 A3725 ((t3671.2.2.2.2.2.2).length) n3727 t3762.2.2.2, r17 A3865 y3817.length n3866 y3817] w3867) := ⟨HS.out.sub (.cons_cons _ (.cons_cons _ (.cons_cons _ (.cons_cons _ (.cons _ .slnil)))))⟩))
                            go_roundg k3823
                            case measure => exact Nat.lt_succ_self _
                            case rel => exact ⟨(wrap64 (x3826 + 1)), (y3817), (t3762.2.2.2), (t3806.2), (A3865), (y3817.length), (n3866), (by first | rfl | (simp [IntKind.wrap_u32]; done)), (by first | rfl | (simp [IntKind.wrap_u32]; done)), Aside0.mk AL3821.out, ⟨(((((HS.out).front 2 (by simp)).front 2 (by simp)).front 2 (by simp)).front 3 (by simp)).keep (l := [r17 A3865 y3817.length n3866 y3817, b7 g3723 g3724 t3671.2.1 t3671.2.2.1 t3671.2.2.2.1 t3671.2.2.2.2.1, b6 g3724 A3725 ((t3671.2.2.2.2.2.2).length) n3727 t3806.2, r5 A3725 ((t3671.2.2.2.2.2.2).length) n3727 t3762.2.2.2]) (rest := [])⟩⟩
                          · replace AL3821 := if_no c3864 AL3821
                            have c3864b0 : decide (x3827.length < 17592186044416) = false := decide_eq_false c3864
                            clear c3864
                            exact (none_no AL3821).elim
                        · replace AL3821 := if_no c3860 AL3821
                          have c3860b0 : (t3806.1 == (wrap64 (t3757.1 - t3766.1))) = false := beq_eq_false_iff_ne.mpr c3860
                          have c3860b1 : (t3806.1 != (wrap64 (t3757.1 - t3766.1))) = true := bne_iff_ne.mpr c3860
                          clear c3860
                          go_wp2_with fail
                          have ho := some_eq AL3821
                          subst ho
                          have H := lp_ret H
                          go_ret
                          rw [← some_eq H]
                          exact ⟨(by first | rfl | (simp [IntKind.wrap_u32]; done)), HS.out.sub (.cons _ (.cons _ (.cons _ (.cons _ .slnil))))⟩
                    · replace AL3821 := if_no c3854 AL3821
                      have c3854b0 : (t3762.2.1 == 0) = false := beq_eq_false_iff_ne.mpr c3854
                      have c3854b1 : (t3762.2.1 != 0) = true := bne_iff_ne.mpr c3854
                      clear c3854
                      by_cases c3870 : t3762.1 = 0
                      · replace AL3821 := if_yes c3870 AL3821
                        have c3870b0 : (t3762.1 == 0) = true := beq_iff_eq.mpr c3870
                        have c3870b1 : (t3762.1 != 0) = false := bne_eq_false_iff_eq.mpr c3870
                        clear c3870
                        replace HS : Aside0 (Sep (fps []) w [b7 g3723 g3724 t3671.2.1 t3671.2.2.1 t3671.2.2.2.1 t3671.2.2.2.2.1, b6 g3724 A3725 ((t3671.2.2.2.2.2.2).length) n3727 t3762.2.2.1, r5 A3725 ((t3671.2.2.2.2.2.2).length) n3727 t3762.2.2.2, r17 A3828 x3827.length n3830 x3827] w3853) := ⟨HS.out.sub (.cons_cons _ (.cons_cons _ (.cons_cons _ (.cons_cons _ (.cons _ .slnil)))))⟩
                        go_wp2_with fail
                        obtain ⟨t3871, HA3872, AL3821⟩ := bind_some AL3821
                        refine (pool_Len.calls t3762.2.2.2 t3762.2.2.1 t3671.2.1 t3671.2.2.1 t3671.2.2.2.1 t3671.2.2.2.2.1 g3723 g3724 A3725 ((t3671.2.2.2.2.2.2).length) n3727 t3871 _ ⟨HGl0.out.pass HS.out⟩ ⟨HS.out.begin⟩ HA3872).mono ?_
                        rintro e_ w3873 ⟨rfl, hS⟩
                        replace HS : Aside0 (Sep (fps []) w [b7 g3723 g3724 t3671.2.1 t3671.2.2.1 t3671.2.2.2.1 t3671.2.2.2.2.1, b6 g3724 A3725 ((t3671.2.2.2.2.2.2).length) n3727 t3871.2, r5 A3725 ((t3671.2.2.2.2.2.2).length) n3727 t3762.2.2.2, r17 A3828 x3827.length n3830 x3827] w3873) := ⟨HS.out.call hS⟩
                        clear hS
                        by_cases c3874 : t3871.1 = t3757.1
                        · replace AL3821 := if_yes c3874 AL3821
                          have c3874b0 : (t3871.1 == t3757.1) = true := beq_iff_eq.mpr c3874
                          have c3874b1 : (t3871.1 != t3757.1) = false := bne_eq_false_iff_eq.mpr c3874
                          clear c3874
                          go_wp2_with fail
                          go_roundg k3823
                          case measure => exact Nat.lt_succ_self _
                          case rel => exact ⟨(wrap64 (x3826 + 1)), (x3827), (t3762.2.2.2), (t3871.2), (A3828), (x3827.length), (n3830), (by first | rfl | (simp [IntKind.wrap_u32]; done)), (by first | rfl | (simp [IntKind.wrap_u32]; done)), Aside0.mk AL3821.out, ⟨(((((HS.out).front 2 (by simp)).front 2 (by simp)).front 2 (by simp)).front 3 (by simp)).keep (l := [r17 A3828 x3827.length n3830 x3827, b7 g3723 g3724 t3671.2.1 t3671.2.2.1 t3671.2.2.2.1 t3671.2.2.2.2.1, b6 g3724 A3725 ((t3671.2.2.2.2.2.2).length) n3727 t3871.2, r5 A3725 ((t3671.2.2.2.2.2.2).length) n3727 t3762.2.2.2]) (rest := [])⟩⟩
                        · replace AL3821 := if_no c3874 AL3821
                          have c3874b0 : (t3871.1 == t3757.1) = false := beq_eq_false_iff_ne.mpr c3874
                          have c3874b1 : (t3871.1 != t3757.1) = true := bne_iff_ne.mpr c3874
                          clear c3874
                          go_wp2_with fail
                          have ho := some_eq AL3821
                          subst ho
                          have H := lp_ret H
                          go_ret
                          rw [← some_eq H]
                          exact ⟨(by first | rfl | (simp [IntKind.wrap_u32]; done)), HS.out.sub (.cons _ (.cons _ (.cons _ (.cons _ .slnil))))⟩
                      · replace AL3821 := if_no c3870 AL3821
                        have c3870b0 : (t3762.1 == 0) = false := beq_eq_false_iff_ne.mpr c3870
                        have c3870b1 : (t3762.1 != 0) = true := bne_iff_ne.mpr c3870
                        clear c3870
                        replace HS : Aside0 (Sep (fps []) w [b7 g3723 g3724 t3671.2.1 t3671.2.2.1 t3671.2.2.2.1 t3671.2.2.2.2.1, b6 g3724 A3725 ((t3671.2.2.2.2.2.2).length) n3727 t3762.2.2.1, r5 A3725 ((t3671.2.2.2.2.2.2).length) n3727 t3762.2.2.2, r17 A3828 x3827.length n3830 x3827] w3853) := ⟨HS.out.sub (.cons_cons _ (.cons_cons _ (.cons_cons _ (.cons_cons _ (.cons _ .slnil)))))⟩
                        go_wp2_with fail
                        have ho := some_eq AL3821
                        subst ho
                        have H := lp_ret H
                        go_ret
                        rw [← some_eq H]
                        exact ⟨(by first | rfl | (simp [IntKind.wrap_u32]; done)), HS.out.sub (.cons _ (.cons _ (.cons _ (.cons _ .slnil))))⟩
                  · replace AL3821 := if_no c3835 AL3821
                    have c3835b0 : decide (0 ≤ x3826) = false := decide_eq_false c3835
                    clear c3835
                    exact (none_no AL3821).elim
                · replace AL3821 := if_no c3834 AL3821
                  have c3834b0 : decide (x3826 < (l2.length : Int)) = false := decide_eq_false c3834
                  clear c3834
                  have ho := some_eq AL3821
                  subst ho
                  clear AL3821
                  have H := lp_out H
                  by_cases c3875 : (x3827.length : Int) = 0
                  · replace H := if_yes c3875 H
                    have c3875b0 : ((x3827.length : Int) == 0) = true := beq_iff_eq.mpr c3875
                    have c3875b1 : ((x3827.length : Int) != 0) = false := bne_eq_false_iff_eq.mpr c3875
                    clear c3875
                    go_wp2_with fail
                    replace HS : Aside0 (Sep (fps []) w [r5 A3725 ((t3671.2.2.2.2.2.2).length) n3727 x3832, r17 A3828 x3827.length n3830 x3827, b7 g3723 g3724 t3671.2.1 t3671.2.2.1 t3671.2.2.2.1 t3671.2.2.2.2.1, b6 g3724 A3725 ((t3671.2.2.2.2.2.2).length) n3727 x3833] w3822) := ⟨HS.out.front 3 (by simp)⟩
                    replace HS : Aside0 (Sep (fps []) w [b6 g3724 A3725 ((t3671.2.2.2.2.2.2).length) n3727 x3833, r5 A3725 ((t3671.2.2.2.2.2.2).length) n3727 x3832, r17 A3828 x3827.length n3830 x3827, b7 g3723 g3724 t3671.2.1 t3671.2.2.1 t3671.2.2.2.1 t3671.2.2.2.2.1] w3822) := ⟨HS.out.front 3 (by simp)⟩
                    replace HS : Aside0 (Sep (fps []) w [b7 g3723 g3724 t3671.2.1 t3671.2.2.1 t3671.2.2.2.1 t3671.2.2.2.2.1, b6 g3724 A3725 ((t3671.2.2.2.2.2.2).length) n3727 x3833, r5 A3725 ((t3671.2.2.2.2.2.2).length) n3727 x3832, r17 A3828 x3827.length n3830 x3827] w3822) := ⟨HS.out.front 3 (by simp)⟩
                    obtain ⟨t3876, HA3877, H⟩ := bind_some H
                    refine (pool_Len.calls x3832 x3833 t3671.2.1 t3671.2.2.1 t3671.2.2.2.1 t3671.2.2.2.2.1 g3723 g3724 A3725 ((t3671.2.2.2.2.2.2).length) n3727 t3876 _ ⟨HGl0.out.pass HS.out⟩ ⟨HS.out.begin⟩ HA3877).mono ?_
                    rintro e_ w3878 ⟨rfl, hS⟩
                    replace HS : Aside0 (Sep (fps []) w [b7 g3723 g3724 t3671.2.1 t3671.2.2.1 t3671.2.2.2.1 t3671.2.2.2.2.1, b6 g3724 A3725 ((t3671.2.2.2.2.2.2).length) n3727 t3876.2, r5 A3725 ((t3671.2.2.2.2.2.2).length) n3727 x3832, r17 A3828 x3827.length n3830 x3827] w3878) := ⟨HS.out.call hS⟩
                    clear hS
                    by_cases c3879 : t3876.1 = (wrap64 (a1))
                    · replace H := if_yes c3879 H
                      have c3879b0 : (t3876.1 == (wrap64 (a1))) = true := beq_iff_eq.mpr c3879
                      have c3879b1 : (t3876.1 != (wrap64 (a1))) = false := bne_eq_false_iff_eq.mpr c3879
                      clear c3879
                      go_wp2_with fail
                      obtain ⟨t3880, HA3881, H⟩ := bind_some H
                      refine (quitrentlaw11_begun.calls _ t3880 _ ⟨HGl0.out.pass (l := []) HS.out⟩ ⟨Sep.start _⟩ HA3881).mono ?_
                      rintro e_ w3882 ⟨rfl, hS⟩
                      replace HS : Aside0 (Sep (fps []) w [b7 g3723 g3724 t3671.2.1 t3671.2.2.1 t3671.2.2.2.1 t3671.2.2.2.2.1, b6 g3724 A3725 ((t3671.2.2.2.2.2.2).length) n3727 t3876.2, r5 A3725 ((t3671.2.2.2.2.2.2).length) n3727 x3832, r17 A3828 x3827.length n3830 x3827] w3882) := ⟨HS.out.call hS⟩
                      clear hS
                      replace HS : Aside0 (Sep (fps []) w [] w3882) := ⟨HS.out.sub (.cons _ (.cons _ (.cons _ (.cons _ .slnil))))⟩
                      go_wp2_with fail
                      go_ret
                      rw [← some_eq H]
                      exact ⟨(by first | rfl | (simp [IntKind.wrap_u32]; done)), HS.out⟩
                    · replace H := if_no c3879 H
                      have c3879b0 : (t3876.1 == (wrap64 (a1))) = false := beq_eq_false_iff_ne.mpr c3879
                      have c3879b1 : (t3876.1 != (wrap64 (a1))) = true := bne_iff_ne.mpr c3879
                      clear c3879
                      replace HS : Aside0 (Sep (fps []) w [] w3878) := ⟨HS.out.sub (.cons _ (.cons _ (.cons _ (.cons _ .slnil))))⟩
                      go_wp2_with fail
                      go_ret
                      rw [← some_eq H]
                      exact ⟨(by first | rfl | (simp [IntKind.wrap_u32]; done)), HS.out⟩
                  · replace H := if_no c3875 H
                    have c3875b0 : ((x3827.length : Int) == 0) = false := beq_eq_false_iff_ne.mpr c3875
                    have c3875b1 : ((x3827.length : Int) != 0) = true := bne_iff_ne.mpr c3875
                    clear c3875
                    by_cases c3884 : 0 ≤ (Int.tmod (wrap64 (a6)) (x3827.length : Int))
                    · replace H := if_yes c3884 H
                      have c3884b0 : decide (0 ≤ (Int.tmod (wrap64 (a6)) (x3827.length : Int))) = true := decide_eq_true c3884
                      have c3884p : (0 ≤ (Int.tmod (wrap64 (a6)) (x3827.length : Int))) = True := eq_true c3884
                      clear c3884
                      by_cases c3885 : (Int.tmod (wrap64 (a6)) (x3827.length : Int)) < (x3827.length : Int)
                      · replace H := if_yes c3885 H
                        have c3885b0 : decide ((Int.tmod (wrap64 (a6)) (x3827.length : Int)) < (x3827.length : Int)) = true := decide_eq_true c3885
                        have c3885p : ((Int.tmod (wrap64 (a6)) (x3827.length : Int)) < (x3827.length : Int)) = True := eq_true c3885
                        clear c3885
                        have nz3883 : (x3827.length = 0) = False := eq_false (by have := beq_eq_false_iff_ne.1 c3875b0; omega)
                        obtain ⟨g3886, ea⟩ := row_at (HS.out.at0) (by have := (of_decide_eq_true c3884b0); have := (of_decide_eq_true c3885b0); omega); cases ea
                        have hx3887 := C_at_int (row_Ci (HS.out.at0)) (Int.tmod (wrap64 (a6)) (x3827.length : Int)) (of_decide_eq_true c3884b0) (of_decide_eq_true c3885b0)
                        have hx3888 : w3822.cell? ⟨g3886, (Int.tmod (wrap64 (a6)) (x3827.length : Int)).toNat, none⟩ = some (.int .i64 (rd x3827 (Int.tmod (wrap64 (a6)) (x3827.length : Int)))) := (row_get 0 (HS.out.at0) (Int.tmod (wrap64 (a6)) (x3827.length : Int)) (of_decide_eq_true c3884b0) (of_decide_eq_true c3885b0)).1
                        replace HS : Aside0 (Sep (fps []) w [b7 g3723 g3724 t3671.2.1 t3671.2.2.1 t3671.2.2.2.1 t3671.2.2.2.2.1, b6 g3724 A3725 ((t3671.2.2.2.2.2.2).length) n3727 x3833, r5 A3725 ((t3671.2.2.2.2.2.2).length) n3727 x3832] w3822) := ⟨HS.out.sub (.cons _ (.cons_cons _ (.cons_cons _ (.cons_cons _ .slnil))))⟩
                        go_wp2_with fail
                        clear nz3883 hx3887 hx3888
                        obtain ⟨t3889, HA3890, H⟩ := bind_some H
                        refine (pool_Len.calls x3832 x3833 t3671.2.1 t3671.2.2.1 t3671.2.2.2.1 t3671.2.2.2.2.1 g3723 g3724 A3725 ((t3671.2.2.2.2.2.2).length) n3727 t3889 _ ⟨HGl0.out.pass HS.out⟩ ⟨HS.out.begin⟩ HA3890).mono ?_
                        rintro e_ w3891 ⟨rfl, hS⟩
                        replace HS : Aside0 (Sep (fps []) w [b7 g3723 g3724 t3671.2.1 t3671.2.2.1 t3671.2.2.2.1 t3671.2.2.2.2.1, b6 g3724 A3725 ((t3671.2.2.2.2.2.2).length) n3727 t3889.2, r5 A3725 ((t3671.2.2.2.2.2.2).length) n3727 x3832] w3891) := ⟨HS.out.call hS⟩
                        clear hS
                        go_wp2_with fail
                        obtain ⟨t3892, HA3893, H⟩ := bind_some H
                        refine (obj_Blocks.calls _ x3832 t3889.2 t3671.2.1 t3671.2.2.1 t3671.2.2.2.1 t3671.2.2.2.2.1 (rd x3827 (Int.tmod (wrap64 (a6)) (x3827.length : Int))) g3723 g3724 A3725 ((t3671.2.2.2.2.2.2).length) n3727 t3892 _ ⟨HGl0.out.pass HS.out⟩ ⟨HS.out.begin⟩ HA3893).mono ?_
                        rintro e_ w3894 ⟨rfl, hS⟩
                        replace HS : Aside0 (Sep (fps []) w [b7 g3723 g3724 t3671.2.1 t3671.2.2.1 t3671.2.2.2.1 t3671.2.2.2.2.1, b6 g3724 A3725 ((t3671.2.2.2.2.2.2).length) n3727 t3892.2, r5 A3725 ((t3671.2.2.2.2.2.2).length) n3727 x3832] w3894) := ⟨HS.out.call hS⟩
                        clear hS
                        go_wp2_with fail
                        obtain ⟨o3917, AL3918, H⟩ := bind_some H
                        go_loopg [19] k (fun kq v19 wc => ∃ (x3921 : Int) (x3922 : List Int) (x3923 : Int), v19 = .int .i64 x3921 ∧ Aside0 (quitrentlaw11_ObjWhole.lo2 kq a6 t3671 (x3827, x3832, x3833) x3921 x3922 x3923 = some o3917) ∧ Aside0 (Sep (fps []) w [b7 g3723 g3724 t3671.2.1 t3671.2.2.1 t3671.2.2.2.1 t3671.2.2.2.2.1, b6 g3724 A3725 ((t3671.2.2.2.2.2.2).length) n3727 x3923, r5 A3725 ((t3671.2.2.2.2.2.2).length) n3727 x3922] wc))
                        case atStart => exact ⟨(wrap64 (t3892.1 - 2)), (x3832), (t3892.2), (by first | rfl | (simp [IntKind.wrap_u32]; done)), AL3918, ⟨HS.out⟩⟩
                        case round =>
                          clear AL3918 HS
                          obtain ⟨x3921, x3922, x3923, rfl, AL3918, HS⟩ := hrel
                          obtain ⟨w3919, rfl⟩ : ∃ x : World, x = wr := ⟨_, rfl⟩
                          cases gk with
                          | zero => exact absurd AL3918.out (by simp [quitrentlaw11_ObjWhole.lo2])
                          | succ k3920 =>
                            have AL0 := AL3918.out
                            rw [quitrentlaw11_ObjWhole.lo2] at AL0
                            clear AL3918
                            have AL3918 := Aside0.mk AL0
                            clear AL0
                            by_cases c3924 : x3921 ≥ 0
                            · replace AL3918 := if_yes c3924 AL3918
                              have c3924b0 : decide (0 ≤ x3921) = true := decide_eq_true c3924
                              clear c3924
                              go_wp2_with fail
                              obtain ⟨t3902, HA3925, AL3918⟩ := bind_some AL3918
                              refine (obj_Shed.calls _ x3922 x3923 t3671.2.1 t3671.2.2.1 t3671.2.2.2.1 t3671.2.2.2.2.1 (rd x3827 (Int.tmod (wrap64 (a6)) (x3827.length : Int))) x3921 g3723 g3724 A3725 ((t3671.2.2.2.2.2.2).length) n3727 t3902 _ ⟨HGl0.out.pass HS.out⟩ ⟨HS.out.begin⟩ HA3925).mono ?_
                              rintro e_ w3926 ⟨rfl, hS⟩
                              replace HS : Aside0 (Sep (fps []) w [b7 g3723 g3724 t3671.2.1 t3671.2.2.1 t3671.2.2.2.1 t3671.2.2.2.2.1, b6 g3724 A3725 ((t3671.2.2.2.2.2.2).length) n3727 t3902.2.1, r5 A3725 ((t3671.2.2.2.2.2.2).length) n3727 t3902.2.2] w3926) := ⟨HS.out.call hS⟩
                              clear hS
                              by_cases c3927 : t3902.1 = true
                              · replace AL3918 := if_yes c3927 AL3918
                                have c3927b0 : t3902.1 = true := c3927
                                have c3927b1 : (!t3902.1) = false := by rw [c3927b0]; rfl
                                try rw [c3927b1]
                                clear c3927
                                go_wp2_with fail
                                go_roundg k3920
                                case measure => exact Nat.lt_succ_self _
                                case rel => exact ⟨(wrap64 (x3921 - 1)), (t3902.2.2), (t3902.2.1), (by first | rfl | (simp [IntKind.wrap_u32]; done)), Aside0.mk AL3918.out, ⟨HS.out⟩⟩
                              · replace AL3918 := if_no c3927 AL3918
                                have c3927b0 : t3902.1 = false := by simpa using c3927
                                have c3927b1 : (!t3902.1) = true := by rw [c3927b0]; rfl
                                try rw [c3927b1]
                                clear c3927
                                go_wp2_with fail
                                have ho := some_eq AL3918
                                subst ho
                                have H := lp_ret H
                                go_ret
                                rw [← some_eq H]
                                exact ⟨(by first | rfl | (simp [IntKind.wrap_u32]; done)), HS.out.sub (.cons _ (.cons _ (.cons _ .slnil)))⟩
                            · replace AL3918 := if_no c3924 AL3918
                              have c3924b0 : decide (0 ≤ x3921) = false := decide_eq_false c3924
                              clear c3924
                              have ho := some_eq AL3918
                              subst ho
                              clear AL3918
                              have H := lp_out H
                              go_wp2_with fail
                              obtain ⟨t3958, HA3959, H⟩ := bind_some H
                              refine (obj_End.calls x3922 x3923 t3671.2.1 t3671.2.2.1 t3671.2.2.2.1 t3671.2.2.2.2.1 (rd x3827 (Int.tmod (wrap64 (a6)) (x3827.length : Int))) g3723 g3724 A3725 ((t3671.2.2.2.2.2.2).length) n3727 t3958 _ ⟨HGl0.out.pass HS.out⟩ ⟨HS.out.begin⟩ HA3959).mono ?_
                              rintro e_ w3960 ⟨rfl, hS⟩
                              replace HS : Aside0 (Sep (fps []) w [b7 g3723 g3724 t3671.2.1 t3671.2.2.1 t3671.2.2.2.1 t3671.2.2.2.2.1, b6 g3724 A3725 ((t3671.2.2.2.2.2.2).length) n3727 t3958.2.1, r5 A3725 ((t3671.2.2.2.2.2.2).length) n3727 t3958.2.2] w3960) := ⟨HS.out.call hS⟩
                              clear hS
                              by_cases c3961 : t3958.1 = true
                              · replace H := if_yes c3961 H
                                have c3961b0 : t3958.1 = true := c3961
                                have c3961b1 : (!t3958.1) = false := by rw [c3961b0]; rfl
                                clear c3961
                                go_wp2_with fail
                                obtain ⟨t3962, HA3963, H⟩ := bind_some H
                                refine (obj_Is.calls t3958.2.2 t3958.2.1 t3671.2.1 t3671.2.2.1 t3671.2.2.2.1 t3671.2.2.2.2.1 (rd x3827 (Int.tmod (wrap64 (a6)) (x3827.length : Int))) g3723 g3724 A3725 ((t3671.2.2.2.2.2.2).length) n3727 t3962 _ ⟨HGl0.out.pass HS.out⟩ ⟨HS.out.begin⟩ HA3963).mono ?_
                                rintro e_ w3964 ⟨rfl, hS⟩
                                replace HS : Aside0 (Sep (fps []) w [b7 g3723 g3724 t3671.2.1 t3671.2.2.1 t3671.2.2.2.1 t3671.2.2.2.2.1, b6 g3724 A3725 ((t3671.2.2.2.2.2.2).length) n3727 t3962.2, r5 A3725 ((t3671.2.2.2.2.2.2).length) n3727 t3958.2.2] w3964) := ⟨HS.out.call hS⟩
                                clear hS
                                by_cases c3965 : t3962.1 = true
                                · replace H := if_yes c3965 H
                                  have c3965b0 : t3962.1 = true := c3965
                                  have c3965b1 : (!t3962.1) = false := by rw [c3965b0]; rfl
                                  try rw [c3965b1]
                                  clear c3965
                                  replace HS : Aside0 (Sep (fps []) w [] w3964) := ⟨HS.out.sub (.cons _ (.cons _ (.cons _ .slnil)))⟩
                                  go_wp2_with fail
                                  go_ret
                                  rw [← some_eq H]
                                  exact ⟨(by first | rfl | (simp [IntKind.wrap_u32]; done)), HS.out⟩
                                · replace H := if_no c3965 H
                                  have c3965b0 : t3962.1 = false := by simpa using c3965
                                  have c3965b1 : (!t3962.1) = true := by rw [c3965b0]; rfl
                                  try rw [c3965b1]
                                  clear c3965
                                  go_wp2_with fail
                                  obtain ⟨t3966, HA3967, H⟩ := bind_some H
                                  refine (obj_End.calls t3958.2.2 t3962.2 t3671.2.1 t3671.2.2.1 t3671.2.2.2.1 t3671.2.2.2.2.1 (rd x3827 (Int.tmod (wrap64 (a6)) (x3827.length : Int))) g3723 g3724 A3725 ((t3671.2.2.2.2.2.2).length) n3727 t3966 _ ⟨HGl0.out.pass HS.out⟩ ⟨HS.out.begin⟩ HA3967).mono ?_
                                  rintro e_ w3968 ⟨rfl, hS⟩
                                  replace HS : Aside0 (Sep (fps []) w [b7 g3723 g3724 t3671.2.1 t3671.2.2.1 t3671.2.2.2.1 t3671.2.2.2.2.1, b6 g3724 A3725 ((t3671.2.2.2.2.2.2).length) n3727 t3966.2.1, r5 A3725 ((t3671.2.2.2.2.2.2).length) n3727 t3966.2.2] w3968) := ⟨HS.out.call hS⟩
                                  clear hS
                                  by_cases c3969 : t3966.1 = true
                                  · replace H := if_yes c3969 H
                                    have c3969b0 : t3966.1 = true := c3969
                                    have c3969b1 : (!t3966.1) = false := by rw [c3969b0]; rfl
                                    try rw [c3969b1]
                                    clear c3969
                                    replace HS : Aside0 (Sep (fps []) w [] w3968) := ⟨HS.out.sub (.cons _ (.cons _ (.cons _ .slnil)))⟩
                                    go_wp2_with fail
                                    go_ret
                                    rw [← some_eq H]
                                    exact ⟨(by first | rfl | (simp [IntKind.wrap_u32]; done)), HS.out⟩
                                  · replace H := if_no c3969 H
                                    have c3969b0 : t3966.1 = false := by simpa using c3969
                                    have c3969b1 : (!t3966.1) = true := by rw [c3969b0]; rfl
                                    try rw [c3969b1]
                                    clear c3969
                                    go_wp2_with fail
                                    obtain ⟨t3970, HA3971, H⟩ := bind_some H
                                    refine (pool_Len.calls t3966.2.2 t3966.2.1 t3671.2.1 t3671.2.2.1 t3671.2.2.2.1 t3671.2.2.2.2.1 g3723 g3724 A3725 ((t3671.2.2.2.2.2.2).length) n3727 t3970 _ ⟨HGl0.out.pass HS.out⟩ ⟨HS.out.begin⟩ HA3971).mono ?_
                                    rintro e_ w3972 ⟨rfl, hS⟩
                                    replace HS : Aside0 (Sep (fps []) w [b7 g3723 g3724 t3671.2.1 t3671.2.2.1 t3671.2.2.2.1 t3671.2.2.2.2.1, b6 g3724 A3725 ((t3671.2.2.2.2.2.2).length) n3727 t3970.2, r5 A3725 ((t3671.2.2.2.2.2.2).length) n3727 t3966.2.2] w3972) := ⟨HS.out.call hS⟩
                                    clear hS
                                    by_cases c3973 : t3970.1 = (wrap64 (t3889.1 + t3892.1))
                                    · replace H := if_yes c3973 H
                                      have c3973b0 : (t3970.1 == (wrap64 (t3889.1 + t3892.1))) = true := beq_iff_eq.mpr c3973
                                      have c3973b1 : (t3970.1 != (wrap64 (t3889.1 + t3892.1))) = false := bne_eq_false_iff_eq.mpr c3973
                                      clear c3973
                                      go_wp2_with fail
                                      obtain ⟨t3974, HA3975, H⟩ := bind_some H
                                      refine (quitrentlaw11_begun.calls _ t3974 _ ⟨HGl0.out.pass (l := []) HS.out⟩ ⟨Sep.start _⟩ HA3975).mono ?_
                                      rintro e_ w3976 ⟨rfl, hS⟩
                                      replace HS : Aside0 (Sep (fps []) w [b7 g3723 g3724 t3671.2.1 t3671.2.2.1 t3671.2.2.2.1 t3671.2.2.2.2.1, b6 g3724 A3725 ((t3671.2.2.2.2.2.2).length) n3727 t3970.2, r5 A3725 ((t3671.2.2.2.2.2.2).length) n3727 t3966.2.2] w3976) := ⟨HS.out.call hS⟩
                                      clear hS
                                      replace HS : Aside0 (Sep (fps []) w [] w3976) := ⟨HS.out.sub (.cons _ (.cons _ (.cons _ .slnil)))⟩
                                      go_wp2_with fail
                                      go_ret
                                      rw [← some_eq H]
                                      exact ⟨(by first | rfl | (simp [IntKind.wrap_u32]; done)), HS.out⟩
                                    · replace H := if_no c3973 H
                                      have c3973b0 : (t3970.1 == (wrap64 (t3889.1 + t3892.1))) = false := beq_eq_false_iff_ne.mpr c3973
                                      have c3973b1 : (t3970.1 != (wrap64 (t3889.1 + t3892.1))) = true := bne_iff_ne.mpr c3973
                                      clear c3973
                                      replace HS : Aside0 (Sep (fps []) w [] w3972) := ⟨HS.out.sub (.cons _ (.cons _ (.cons _ .slnil)))⟩
                                      go_wp2_with fail
                                      go_ret
                                      rw [← some_eq H]
                                      exact ⟨(by first | rfl | (simp [IntKind.wrap_u32]; done)), HS.out⟩
                              · replace H := if_no c3961 H
                                have c3961b0 : t3958.1 = false := by simpa using c3961
                                have c3961b1 : (!t3958.1) = true := by rw [c3961b0]; rfl
                                clear c3961
                                replace HS : Aside0 (Sep (fps []) w [] w3960) := ⟨HS.out.sub (.cons _ (.cons _ (.cons _ .slnil)))⟩
                                go_wp2_with fail
                                go_ret
                                rw [← some_eq H]
                                exact ⟨(by first | rfl | (simp [IntKind.wrap_u32]; done)), HS.out⟩
                      · replace H := if_no c3885 H
                        have c3885b0 : decide ((Int.tmod (wrap64 (a6)) (x3827.length : Int)) < (x3827.length : Int)) = false := decide_eq_false c3885
                        clear c3885
                        exact (none_no H).elim
                    · replace H := if_no c3884 H
                      have c3884b0 : decide (0 ≤ (Int.tmod (wrap64 (a6)) (x3827.length : Int))) = false := decide_eq_false c3884
                      clear c3884
                      exact (none_no H).elim
          · replace H := if_no c3729 H
            have c3729b0 : t3671.1 = false := by simpa using c3729
            have c3729b1 : (!t3671.1) = true := by rw [c3729b0]; rfl
            try rw [c3729b1]
            clear c3729
            replace HS : Aside0 (Sep (fps []) w [] w3719) := ⟨HS.out.sub (.cons _ (.cons _ (.cons _ .slnil)))⟩
            go_wp2_with fail
            go_ret
            rw [← some_eq H]
            exact ⟨(by first | rfl | (simp [IntKind.wrap_u32]; done)), HS.out⟩
end Go.Proofs.YtobeonkddamnoaaDoor.C

/- Each function of the group TN does what its plain function says, and changes nothing that was there; proved by walking its code. No condition. -/
import Derived.Test.YtobeonkddamnoaaGreatDoorQw
import Derived.Test.YtobeonkddamnoaaGreatDoorMTN
import Derived.Test.YtobeonkddamnoaaGreatDoorGTN0
import Derived.Test.YtobeonkddamnoaaGreatDoorGTN1
import Derived.Test.YtobeonkddamnoaaGreatDoorGTN2
import Derived.Test.YtobeonkddamnoaaGreatDoorGTN3
import Derived.Test.YtobeonkddamnoaaGreatDoorGTN4
namespace Go.Proofs.YtobeonkddamnoaaGreatDoor.C
open Go.RowKit Go.Proofs.YtobeonkddamnoaaGreatDoorW.PrintWords Go.Proofs.YtobeonkddamnoaaGreatDoorW.PrintLast Go.Proofs.YtobeonkddamnoaaGreatDoor.Q Go.Proofs.YtobeonkddamnoaaGreatDoor.M
set_option linter.unusedVariables false
set_option linter.unusedSimpArgs false
set_option maxHeartbeats 30000000 in
set_option maxRecDepth 100000 in
theorem quitrentlaw13_begun.calls (k : Nat)  (r : Bool) (w : World)  (HGl0 : Aside0 (Gl 0 #[.int .i64 0, .int .i64 0, .int .i64 0, .int .i64 0, .int .i64 0] (fps []) w)) (HS : Aside0 (Sep (fps []) w [] w)) (H : Aside0 (quitrentlaw13_begun.f k = some r)) :
    Calls Tryz.prog 7 #[] w fun e w' => e = .returned (.bool r) ∧ Sep (fps []) w [] w' := by
  unfold quitrentlaw13_begun.f at H
  go_enter Tryz.func7, Tryz.ntmps7
  go_wp2_with fail
  obtain ⟨t3375, HA3376, H⟩ := bind_some H
  rcases t3375 with t3377 | (t3378 | t3379)
  · have H := sum_l H
    refine (quitrentlaw12_Opened.calls _ 2 16 1 1 (.inl t3377) _ ⟨HGl0.out.pass (l := []) HS.out⟩ ⟨Sep.start _⟩ HA3376).mono ?_
    rintro e_ w3380 ⟨rfl, hS⟩
    replace HS : Aside0 (Sep (fps []) w [] w3380) := ⟨HS.out.call hS⟩
    clear hS
    by_cases c3381 : t3377 = true
    · have H := if_yes c3381 H
      have c3381b0 : t3377 = true := c3381
      have c3381b1 : (!t3377) = false := by rw [c3381b0]; rfl
      try rw [c3381b1]
      clear c3381
      go_wp2_with fail
      obtain ⟨t3654, HA3655, H⟩ := bind_some H
      refine (obj_Make_nil.calls _ 1 1 t3654 _ ⟨HGl0.out.pass (l := []) HS.out⟩ ⟨Sep.start _⟩ HA3655).mono ?_
      rintro e_ w3656 ⟨rfl, hS⟩
      replace HS : Aside0 (Sep (fps []) w [] w3656) := ⟨HS.out.call hS⟩
      clear hS
      by_cases c3657 : t3654.2 = 0
      · have H := if_yes c3657 H
        have c3657b0 : (t3654.2 == 0) = true := beq_iff_eq.mpr c3657
        have c3657b1 : (t3654.2 != 0) = false := bne_eq_false_iff_eq.mpr c3657
        clear c3657
        go_wp2_with fail
        obtain ⟨t3658, HA3659, H⟩ := bind_some H
        refine (tint_Dye_nil.calls _ t3654.1 t3658 _ ⟨HGl0.out.pass (l := []) HS.out⟩ ⟨Sep.start _⟩ HA3659).mono ?_
        rintro e_ w3660 ⟨rfl, hS⟩
        replace HS : Aside0 (Sep (fps []) w [] w3660) := ⟨HS.out.call hS⟩
        clear hS
        by_cases c3661 : t3658 = true
        · have H := if_yes c3661 H
          have c3661b0 : t3658 = true := c3661
          have c3661b1 : (!t3658) = false := by rw [c3661b0]; rfl
          try rw [c3661b1]
          clear c3661
          go_wp2_with fail
          obtain ⟨t3662, HA3663, H⟩ := bind_some H
          refine (tint_Black_nil.calls t3654.1 t3662 _ ⟨HGl0.out.pass (l := []) HS.out⟩ ⟨Sep.start _⟩ HA3663).mono ?_
          rintro e_ w3664 ⟨rfl, hS⟩
          replace HS : Aside0 (Sep (fps []) w [] w3664) := ⟨HS.out.call hS⟩
          clear hS
          by_cases c3665 : t3662 = true
          · have H := if_yes c3665 H
            have c3665b0 : t3662 = true := c3665
            have c3665b1 : (!t3662) = false := by rw [c3665b0]; rfl
            try rw [c3665b1]
            clear c3665
            go_wp2_with fail
            obtain ⟨t3666, HA3667, H⟩ := bind_some H
            refine (tint_Turn_nil.calls t3666 _ ⟨HGl0.out.pass (l := []) HS.out⟩ ⟨Sep.start _⟩ HA3667).mono ?_
            rintro e_ w3668 ⟨rfl, hS⟩
            replace HS : Aside0 (Sep (fps []) w [] w3668) := ⟨HS.out.call hS⟩
            clear hS
            go_wp2_with fail
            obtain ⟨t3669, HA3670, H⟩ := bind_some H
            refine (tint_Begin_nil.calls 1 t3669 _ ⟨HGl0.out.pass (l := []) HS.out⟩ ⟨Sep.start _⟩ HA3670).mono ?_
            rintro e_ w3671 ⟨rfl, hS⟩
            replace HS : Aside0 (Sep (fps []) w [] w3671) := ⟨HS.out.call hS⟩
            clear hS
            by_cases c3672 : t3669 = true
            · have H := if_yes c3672 H
              have c3672b0 : t3669 = true := c3672
              have c3672b1 : (!t3669) = false := by rw [c3672b0]; rfl
              try rw [c3672b1]
              clear c3672
              go_wp2_with fail
              obtain ⟨t3673, HA3674, H⟩ := bind_some H
              refine (tint_Black_nil.calls t3654.1 t3673 _ ⟨HGl0.out.pass (l := []) HS.out⟩ ⟨Sep.start _⟩ HA3674).mono ?_
              rintro e_ w3675 ⟨rfl, hS⟩
              replace HS : Aside0 (Sep (fps []) w [] w3675) := ⟨HS.out.call hS⟩
              clear hS
              by_cases c3676 : t3673 = true
              · have H := if_yes c3676 H
                have c3676b0 : t3673 = true := c3676
                have c3676b1 : (!t3673) = false := by rw [c3676b0]; rfl
                clear c3676
                go_wp2_with fail
                go_ret
                rw [← some_eq H]
                exact ⟨(by first | rfl | (simp [IntKind.wrap_u32]; done)), HS.out⟩
              · have H := if_no c3676 H
                have c3676b0 : t3673 = false := by simpa using c3676
                have c3676b1 : (!t3673) = true := by rw [c3676b0]; rfl
                clear c3676
                go_wp2_with fail
                obtain ⟨t3677, HA3678, H⟩ := bind_some H
                refine (tint_Deepen_nil.calls _ t3654.1 t3677 _ ⟨HGl0.out.pass (l := []) HS.out⟩ ⟨Sep.start _⟩ HA3678).mono ?_
                rintro e_ w3679 ⟨rfl, hS⟩
                replace HS : Aside0 (Sep (fps []) w [] w3679) := ⟨HS.out.call hS⟩
                clear hS
                by_cases c3680 : t3677 = true
                · have H := if_yes c3680 H
                  have c3680b0 : t3677 = true := c3680
                  have c3680b1 : (!t3677) = false := by rw [c3680b0]; rfl
                  try rw [c3680b1]
                  clear c3680
                  go_wp2_with fail
                  obtain ⟨t3681, HA3682, H⟩ := bind_some H
                  refine (tint_Deepen_nil.calls _ t3654.1 t3681 _ ⟨HGl0.out.pass (l := []) HS.out⟩ ⟨Sep.start _⟩ HA3682).mono ?_
                  rintro e_ w3683 ⟨rfl, hS⟩
                  replace HS : Aside0 (Sep (fps []) w [] w3683) := ⟨HS.out.call hS⟩
                  clear hS
                  by_cases c3684 : t3681 = true
                  · have H := if_yes c3684 H
                    have c3684b0 : t3681 = true := c3684
                    have c3684b1 : (!t3681) = false := by rw [c3684b0]; rfl
                    try rw [c3684b1]
                    clear c3684
                    go_wp2_with fail
                    obtain ⟨t3685, HA3686, H⟩ := bind_some H
                    refine (tint_Lighten_nil.calls t3654.1 t3685 _ ⟨HGl0.out.pass (l := []) HS.out⟩ ⟨Sep.start _⟩ HA3686).mono ?_
                    rintro e_ w3687 ⟨rfl, hS⟩
                    replace HS : Aside0 (Sep (fps []) w [] w3687) := ⟨HS.out.call hS⟩
                    clear hS
                    by_cases c3688 : t3685 = true
                    · have H := if_yes c3688 H
                      have c3688b0 : t3685 = true := c3688
                      have c3688b1 : (!t3685) = false := by rw [c3688b0]; rfl
                      try rw [c3688b1]
                      clear c3688
                      go_wp2_with fail
                      obtain ⟨t3689, HA3690, H⟩ := bind_some H
                      refine (tint_Shadow_nil.calls t3654.1 t3689 _ ⟨HGl0.out.pass (l := []) HS.out⟩ ⟨Sep.start _⟩ HA3690).mono ?_
                      rintro e_ w3691 ⟨rfl, hS⟩
                      replace HS : Aside0 (Sep (fps []) w [] w3691) := ⟨HS.out.call hS⟩
                      clear hS
                      by_cases c3692 : t3689 = 1
                      · have H := if_yes c3692 H
                        have c3692b0 : (t3689 == 1) = true := beq_iff_eq.mpr c3692
                        have c3692b1 : (t3689 != 1) = false := bne_eq_false_iff_eq.mpr c3692
                        clear c3692
                        go_wp2_with fail
                        obtain ⟨t3693, HA3694, H⟩ := bind_some H
                        refine (tint_Touch_nil.calls _ t3654.1 t3693 _ ⟨HGl0.out.pass (l := []) HS.out⟩ ⟨Sep.start _⟩ HA3694).mono ?_
                        rintro e_ w3695 ⟨rfl, hS⟩
                        replace HS : Aside0 (Sep (fps []) w [] w3695) := ⟨HS.out.call hS⟩
                        clear hS
                        by_cases c3696 : t3693 = true
                        · have H := if_yes c3696 H
                          have c3696b0 : t3693 = true := c3696
                          have c3696b1 : (!t3693) = false := by rw [c3696b0]; rfl
                          clear c3696
                          go_wp2_with fail
                          obtain ⟨t3697, HA3698, H⟩ := bind_some H
                          refine (tint_Touch_nil.calls _ t3654.1 t3697 _ ⟨HGl0.out.pass (l := []) HS.out⟩ ⟨Sep.start _⟩ HA3698).mono ?_
                          rintro e_ w3699 ⟨rfl, hS⟩
                          replace HS : Aside0 (Sep (fps []) w [] w3699) := ⟨HS.out.call hS⟩
                          clear hS
                          by_cases c3700 : t3697 = true
                          · have H := if_yes c3700 H
                            have c3700b0 : t3697 = true := c3700
                            have c3700b1 : (!t3697) = false := by rw [c3700b0]; rfl
                            try rw [c3700b1]
                            clear c3700
                            go_wp2_with fail
                            go_ret
                            rw [← some_eq H]
                            exact ⟨(by first | rfl | (simp [IntKind.wrap_u32]; done)), HS.out⟩
                          · have H := if_no c3700 H
                            have c3700b0 : t3697 = false := by simpa using c3700
                            have c3700b1 : (!t3697) = true := by rw [c3700b0]; rfl
                            try rw [c3700b1]
                            clear c3700
                            go_wp2_with fail
                            obtain ⟨t3713, HA3714, H⟩ := bind_some H
                            refine (ring_List_nil.calls t3713 _ ⟨HGl0.out.pass (l := []) HS.out⟩ ⟨Sep.start _⟩ HA3714).mono ?_
                            rintro e_ w3715 ⟨A3717, m3718, n3719, rfl, hS⟩
                            replace HS : Aside0 (Sep (fps []) w [r17 A3717 m3718 n3719 t3713] w3715) := ⟨HS.out.call hS⟩
                            clear hS
                            obtain rfl := (row_len (HS.out.at0)).symm
                            go_wp2_with (first | ((with_reducible refine gate_dst (N := 81) rfl ?_); refine slice_on (n := 1) ?hg (N := 81) ?hd (cs := #[.int .i64 (wrap64 (t3654.1 - 1))]) (t := 3) ?hr ?_; (case hd => rfl); (case hg => rfl); (case hr => first | (go_simp; done) | (go_simp; rfl)); intro g3721 hg w3722 hbox hb; replace HS : Aside0 (Sep (fps []) w [r17 A3717 t3713.length n3719 t3713, b2 g3721 (wrap64 (t3654.1 - 1))] w3722) := ⟨HS.out.box hg hbox hb⟩; clear hg hbox hb))
                            obtain ⟨t3763, HA3764, H⟩ := bind_some H
                            refine (quitrentref01_Ints.calls _ t3713 [wrap64 (t3654.1 - 1)] A3717 n3719 (some ⟨g3721, 0, none⟩) 1 t3763 _ ⟨Rd.ownI (l := []) HS.out 0 rfl⟩ ⟨Rd.lit (l := []) (xs := [wrap64 (t3654.1 - 1)]) HS.out 1 rfl (by simp)⟩ ⟨HGl0.out.pass (l := []) HS.out⟩ ⟨Sep.start _⟩ HA3764).mono ?_
                            rintro e_ w3765 ⟨rfl, hS⟩
                            replace HS : Aside0 (Sep (fps []) w [r17 A3717 t3713.length n3719 t3713, b2 g3721 (wrap64 (t3654.1 - 1))] w3765) := ⟨HS.out.call hS⟩
                            clear hS
                            replace HS : Aside0 (Sep (fps []) w [] w3765) := ⟨HS.out.sub (.cons _ (.cons _ .slnil))⟩
                            go_wp2_with fail
                            go_ret
                            rw [← some_eq H]
                            exact ⟨(by first | rfl | (simp [IntKind.wrap_u32]; done)), HS.out⟩
                        · have H := if_no c3696 H
                          have c3696b0 : t3693 = false := by simpa using c3696
                          have c3696b1 : (!t3693) = true := by rw [c3696b0]; rfl
                          clear c3696
                          go_wp2_with fail
                          go_ret
                          rw [← some_eq H]
                          exact ⟨(by first | rfl | (simp [IntKind.wrap_u32]; done)), HS.out⟩
                      · have H := if_no c3692 H
                        have c3692b0 : (t3689 == 1) = false := beq_eq_false_iff_ne.mpr c3692
                        have c3692b1 : (t3689 != 1) = true := bne_iff_ne.mpr c3692
                        clear c3692
                        go_wp2_with fail
                        go_ret
                        rw [← some_eq H]
                        exact ⟨(by first | rfl | (simp [IntKind.wrap_u32]; done)), HS.out⟩
                    · have H := if_no c3688 H
                      have c3688b0 : t3685 = false := by simpa using c3688
                      have c3688b1 : (!t3685) = true := by rw [c3688b0]; rfl
                      try rw [c3688b1]
                      clear c3688
                      go_wp2_with fail
                      go_ret
                      rw [← some_eq H]
                      exact ⟨(by first | rfl | (simp [IntKind.wrap_u32]; done)), HS.out⟩
                  · have H := if_no c3684 H
                    have c3684b0 : t3681 = false := by simpa using c3684
                    have c3684b1 : (!t3681) = true := by rw [c3684b0]; rfl
                    try rw [c3684b1]
                    clear c3684
                    go_wp2_with fail
                    go_ret
                    rw [← some_eq H]
                    exact ⟨(by first | rfl | (simp [IntKind.wrap_u32]; done)), HS.out⟩
                · have H := if_no c3680 H
                  have c3680b0 : t3677 = false := by simpa using c3680
                  have c3680b1 : (!t3677) = true := by rw [c3680b0]; rfl
                  try rw [c3680b1]
                  clear c3680
                  go_wp2_with fail
                  go_ret
                  rw [← some_eq H]
                  exact ⟨(by first | rfl | (simp [IntKind.wrap_u32]; done)), HS.out⟩
            · have H := if_no c3672 H
              have c3672b0 : t3669 = false := by simpa using c3672
              have c3672b1 : (!t3669) = true := by rw [c3672b0]; rfl
              try rw [c3672b1]
              clear c3672
              go_wp2_with fail
              go_ret
              rw [← some_eq H]
              exact ⟨(by first | rfl | (simp [IntKind.wrap_u32]; done)), HS.out⟩
          · have H := if_no c3665 H
            have c3665b0 : t3662 = false := by simpa using c3665
            have c3665b1 : (!t3662) = true := by rw [c3665b0]; rfl
            try rw [c3665b1]
            clear c3665
            go_wp2_with fail
            go_ret
            rw [← some_eq H]
            exact ⟨(by first | rfl | (simp [IntKind.wrap_u32]; done)), HS.out⟩
        · have H := if_no c3661 H
          have c3661b0 : t3658 = false := by simpa using c3661
          have c3661b1 : (!t3658) = true := by rw [c3661b0]; rfl
          try rw [c3661b1]
          clear c3661
          go_wp2_with fail
          go_ret
          rw [← some_eq H]
          exact ⟨(by first | rfl | (simp [IntKind.wrap_u32]; done)), HS.out⟩
      · have H := if_no c3657 H
        have c3657b0 : (t3654.2 == 0) = false := beq_eq_false_iff_ne.mpr c3657
        have c3657b1 : (t3654.2 != 0) = true := bne_iff_ne.mpr c3657
        clear c3657
        go_wp2_with fail
        go_ret
        rw [← some_eq H]
        exact ⟨(by first | rfl | (simp [IntKind.wrap_u32]; done)), HS.out⟩
    · have H := if_no c3381 H
      have c3381b0 : t3377 = false := by simpa using c3381
      have c3381b1 : (!t3377) = true := by rw [c3381b0]; rfl
      try rw [c3381b1]
      clear c3381
      go_wp2_with fail
      go_ret
      rw [← some_eq H]
      exact ⟨(by first | rfl | (simp [IntKind.wrap_u32]; done)), HS.out⟩
  · have H := sum_r H
    have H := sum_l H
    refine (quitrentlaw12_Opened.calls _ 2 16 1 1 (.inr (.inl t3378)) _ ⟨HGl0.out.pass (l := []) HS.out⟩ ⟨Sep.start _⟩ HA3376).mono ?_
    rintro e_ w3766 ⟨g3775, g3776, rfl, g3777, g3778, A3779, m3780, n3781, A3783, m3784, n3785, A3787, m3788, n3789, A3791, m3792, n3793, hS⟩
    replace HS : Aside0 (Sep (fps []) w [b14 g3775 g3777 t3378.2.1 t3378.2.2.1 t3378.2.2.2.1 t3378.2.2.2.2.1, b21 g3776 g3778 0 0 0 0 0 0 0 0 0 A3779 m3780 n3781 A3783 m3784 n3785 0, b13 g3777 A3787 m3788 n3789 t3378.2.2.2.2.2.1, b18 g3778 t3378.2.2.2.2.2.2.1 t3378.2.2.2.2.2.2.2.1 A3791 m3792 n3793, r17 A3779 m3780 n3781 t3378.2.2.2.2.2.2.2.2.1, r17 A3783 m3784 n3785 t3378.2.2.2.2.2.2.2.2.2.1, r7 A3787 m3788 n3789 t3378.2.2.2.2.2.2.2.2.2.2.1, r17 A3791 m3792 n3793 t3378.2.2.2.2.2.2.2.2.2.2.2] w3766) := ⟨HS.out.call hS⟩
    clear hS
    obtain rfl := (row_len (HS.out.at4)).symm
    obtain rfl := (row_len (HS.out.at5)).symm
    obtain rfl := (row_len (HS.out.at6)).symm
    obtain rfl := (row_len (HS.out.at7)).symm
    by_cases c3795 : t3378.1 = true
    · have H := if_yes c3795 H
      have c3795b0 : t3378.1 = true := c3795
      have c3795b1 : (!t3378.1) = false := by rw [c3795b0]; rfl
      try rw [c3795b1]
      clear c3795
      replace HS : Aside0 (Sep (fps []) w [b14 g3775 g3777 t3378.2.1 t3378.2.2.1 t3378.2.2.2.1 t3378.2.2.2.2.1, b13 g3777 A3787 ((t3378.2.2.2.2.2.2.2.2.2.2.1).length) n3789 t3378.2.2.2.2.2.1, r7 A3787 ((t3378.2.2.2.2.2.2.2.2.2.2.1).length) n3789 t3378.2.2.2.2.2.2.2.2.2.2.1] w3766) := ⟨HS.out.sub (.cons_cons _ (.cons _ (.cons_cons _ (.cons _ (.cons _ (.cons _ (.cons_cons _ (.cons _ .slnil))))))))⟩
      go_wp2_with fail
      obtain ⟨t3654, HA4310, H⟩ := bind_some H
      refine (obj_Make.calls _ t3378.2.2.2.2.2.2.2.2.2.2.1 t3378.2.2.2.2.2.1 t3378.2.1 t3378.2.2.1 t3378.2.2.2.1 t3378.2.2.2.2.1 1 1 g3775 g3777 A3787 ((t3378.2.2.2.2.2.2.2.2.2.2.1).length) n3789 t3654 _ ⟨HGl0.out.pass HS.out⟩ ⟨HS.out.begin⟩ HA4310).mono ?_
      rintro e_ w4311 ⟨rfl, hS⟩
      replace HS : Aside0 (Sep (fps []) w [b14 g3775 g3777 t3378.2.1 t3378.2.2.1 t3378.2.2.2.1 t3378.2.2.2.2.1, b13 g3777 A3787 ((t3378.2.2.2.2.2.2.2.2.2.2.1).length) n3789 t3654.2.2.1, r7 A3787 ((t3378.2.2.2.2.2.2.2.2.2.2.1).length) n3789 t3654.2.2.2] w4311) := ⟨HS.out.call hS⟩
      clear hS
      by_cases c4312 : t3654.2.1 = 0
      · have H := if_yes c4312 H
        have c4312b0 : (t3654.2.1 == 0) = true := beq_iff_eq.mpr c4312
        have c4312b1 : (t3654.2.1 != 0) = false := bne_eq_false_iff_eq.mpr c4312
        clear c4312
        go_wp2_with fail
        obtain ⟨t3658, HA4777, H⟩ := bind_some H
        refine (tint_Dye.calls _ t3654.2.2.2 t3654.2.2.1 t3378.2.1 t3378.2.2.1 t3378.2.2.2.1 t3378.2.2.2.2.1 t3654.1 g3775 g3777 A3787 ((t3378.2.2.2.2.2.2.2.2.2.2.1).length) n3789 t3658 _ ⟨HGl0.out.pass HS.out⟩ ⟨HS.out.begin⟩ HA4777).mono ?_
        rintro e_ w4778 ⟨rfl, hS⟩
        replace HS : Aside0 (Sep (fps []) w [b14 g3775 g3777 t3378.2.1 t3378.2.2.1 t3378.2.2.2.1 t3378.2.2.2.2.1, b13 g3777 A3787 ((t3378.2.2.2.2.2.2.2.2.2.2.1).length) n3789 t3658.2.1, r7 A3787 ((t3378.2.2.2.2.2.2.2.2.2.2.1).length) n3789 t3658.2.2] w4778) := ⟨HS.out.call hS⟩
        clear hS
        by_cases c4779 : t3658.1 = true
        · have H := if_yes c4779 H
          have c4779b0 : t3658.1 = true := c4779
          have c4779b1 : (!t3658.1) = false := by rw [c4779b0]; rfl
          try rw [c4779b1]
          clear c4779
          go_wp2_with fail
          obtain ⟨t3662, HA4850, H⟩ := bind_some H
          refine (tint_Black.calls t3658.2.2 t3658.2.1 t3378.2.1 t3378.2.2.1 t3378.2.2.2.1 t3378.2.2.2.2.1 t3654.1 g3775 g3777 A3787 ((t3378.2.2.2.2.2.2.2.2.2.2.1).length) n3789 t3662 _ ⟨HGl0.out.pass HS.out⟩ ⟨HS.out.begin⟩ HA4850).mono ?_
          rintro e_ w4851 ⟨rfl, hS⟩
          replace HS : Aside0 (Sep (fps []) w [b14 g3775 g3777 t3378.2.1 t3378.2.2.1 t3378.2.2.2.1 t3378.2.2.2.2.1, b13 g3777 A3787 ((t3378.2.2.2.2.2.2.2.2.2.2.1).length) n3789 t3662.2, r7 A3787 ((t3378.2.2.2.2.2.2.2.2.2.2.1).length) n3789 t3658.2.2] w4851) := ⟨HS.out.call hS⟩
          clear hS
          by_cases c4852 : t3662.1 = true
          · have H := if_yes c4852 H
            have c4852b0 : t3662.1 = true := c4852
            have c4852b1 : (!t3662.1) = false := by rw [c4852b0]; rfl
            try rw [c4852b1]
            clear c4852
            go_wp2_with fail
            obtain ⟨t3666, HA4880, H⟩ := bind_some H
            refine (tint_Turn.calls t3658.2.2 t3662.2 t3378.2.1 t3378.2.2.1 t3378.2.2.2.1 t3378.2.2.2.2.1 g3775 g3777 A3787 ((t3378.2.2.2.2.2.2.2.2.2.2.1).length) n3789 t3666 _ ⟨HGl0.out.pass HS.out⟩ ⟨HS.out.begin⟩ HA4880).mono ?_
            rintro e_ w4881 ⟨rfl, hS⟩
            replace HS : Aside0 (Sep (fps []) w [b14 g3775 g3777 t3378.2.1 t3378.2.2.1 t3378.2.2.2.1 t3378.2.2.2.2.1, b13 g3777 A3787 ((t3378.2.2.2.2.2.2.2.2.2.2.1).length) n3789 t3666.1, r7 A3787 ((t3378.2.2.2.2.2.2.2.2.2.2.1).length) n3789 t3666.2] w4881) := ⟨HS.out.call hS⟩
            clear hS
            go_wp2_with fail
            obtain ⟨t3669, HA4967, H⟩ := bind_some H
            refine (tint_Begin.calls _ t3666.2 t3666.1 t3378.2.1 t3378.2.2.1 t3378.2.2.2.1 t3378.2.2.2.2.1 1 g3775 g3777 A3787 ((t3378.2.2.2.2.2.2.2.2.2.2.1).length) n3789 t3669 _ ⟨HGl0.out.pass HS.out⟩ ⟨HS.out.begin⟩ HA4967).mono ?_
            rintro e_ w4968 ⟨rfl, hS⟩
            replace HS : Aside0 (Sep (fps []) w [b14 g3775 g3777 t3378.2.1 t3378.2.2.1 t3378.2.2.2.1 t3378.2.2.2.2.1, b13 g3777 A3787 ((t3378.2.2.2.2.2.2.2.2.2.2.1).length) n3789 t3669.2.1, r7 A3787 ((t3378.2.2.2.2.2.2.2.2.2.2.1).length) n3789 t3669.2.2] w4968) := ⟨HS.out.call hS⟩
            clear hS
            by_cases c4969 : t3669.1 = true
            · have H := if_yes c4969 H
              have c4969b0 : t3669.1 = true := c4969
              have c4969b1 : (!t3669.1) = false := by rw [c4969b0]; rfl
              try rw [c4969b1]
              clear c4969
              go_wp2_with fail
              obtain ⟨t3673, HA4970, H⟩ := bind_some H
              refine (tint_Black.calls t3669.2.2 t3669.2.1 t3378.2.1 t3378.2.2.1 t3378.2.2.2.1 t3378.2.2.2.2.1 t3654.1 g3775 g3777 A3787 ((t3378.2.2.2.2.2.2.2.2.2.2.1).length) n3789 t3673 _ ⟨HGl0.out.pass HS.out⟩ ⟨HS.out.begin⟩ HA4970).mono ?_
              rintro e_ w4971 ⟨rfl, hS⟩
              replace HS : Aside0 (Sep (fps []) w [b14 g3775 g3777 t3378.2.1 t3378.2.2.1 t3378.2.2.2.1 t3378.2.2.2.2.1, b13 g3777 A3787 ((t3378.2.2.2.2.2.2.2.2.2.2.1).length) n3789 t3673.2, r7 A3787 ((t3378.2.2.2.2.2.2.2.2.2.2.1).length) n3789 t3669.2.2] w4971) := ⟨HS.out.call hS⟩
              clear hS
              by_cases c4972 : t3673.1 = true
              · have H := if_yes c4972 H
                have c4972b0 : t3673.1 = true := c4972
                have c4972b1 : (!t3673.1) = false := by rw [c4972b0]; rfl
                clear c4972
                replace HS : Aside0 (Sep (fps []) w [] w4971) := ⟨HS.out.sub (.cons _ (.cons _ (.cons _ .slnil)))⟩
                go_wp2_with fail
                go_ret
                rw [← some_eq H]
                exact ⟨(by first | rfl | (simp [IntKind.wrap_u32]; done)), HS.out⟩
              · have H := if_no c4972 H
                have c4972b0 : t3673.1 = false := by simpa using c4972
                have c4972b1 : (!t3673.1) = true := by rw [c4972b0]; rfl
                clear c4972
                go_wp2_with fail
                obtain ⟨t3677, HA5182, H⟩ := bind_some H
                refine (tint_Deepen.calls _ t3669.2.2 t3673.2 t3378.2.1 t3378.2.2.1 t3378.2.2.2.1 t3378.2.2.2.2.1 t3654.1 g3775 g3777 A3787 ((t3378.2.2.2.2.2.2.2.2.2.2.1).length) n3789 t3677 _ ⟨HGl0.out.pass HS.out⟩ ⟨HS.out.begin⟩ HA5182).mono ?_
                rintro e_ w5183 ⟨rfl, hS⟩
                replace HS : Aside0 (Sep (fps []) w [b14 g3775 g3777 t3378.2.1 t3378.2.2.1 t3378.2.2.2.1 t3378.2.2.2.2.1, b13 g3777 A3787 ((t3378.2.2.2.2.2.2.2.2.2.2.1).length) n3789 t3677.2.1, r7 A3787 ((t3378.2.2.2.2.2.2.2.2.2.2.1).length) n3789 t3677.2.2] w5183) := ⟨HS.out.call hS⟩
                clear hS
                by_cases c5184 : t3677.1 = true
                · have H := if_yes c5184 H
                  have c5184b0 : t3677.1 = true := c5184
                  have c5184b1 : (!t3677.1) = false := by rw [c5184b0]; rfl
                  try rw [c5184b1]
                  clear c5184
                  go_wp2_with fail
                  obtain ⟨t3681, HA5185, H⟩ := bind_some H
                  refine (tint_Deepen.calls _ t3677.2.2 t3677.2.1 t3378.2.1 t3378.2.2.1 t3378.2.2.2.1 t3378.2.2.2.2.1 t3654.1 g3775 g3777 A3787 ((t3378.2.2.2.2.2.2.2.2.2.2.1).length) n3789 t3681 _ ⟨HGl0.out.pass HS.out⟩ ⟨HS.out.begin⟩ HA5185).mono ?_
                  rintro e_ w5186 ⟨rfl, hS⟩
                  replace HS : Aside0 (Sep (fps []) w [b14 g3775 g3777 t3378.2.1 t3378.2.2.1 t3378.2.2.2.1 t3378.2.2.2.2.1, b13 g3777 A3787 ((t3378.2.2.2.2.2.2.2.2.2.2.1).length) n3789 t3681.2.1, r7 A3787 ((t3378.2.2.2.2.2.2.2.2.2.2.1).length) n3789 t3681.2.2] w5186) := ⟨HS.out.call hS⟩
                  clear hS
                  by_cases c5187 : t3681.1 = true
                  · have H := if_yes c5187 H
                    have c5187b0 : t3681.1 = true := c5187
                    have c5187b1 : (!t3681.1) = false := by rw [c5187b0]; rfl
                    try rw [c5187b1]
                    clear c5187
                    go_wp2_with fail
                    obtain ⟨t3685, HA5426, H⟩ := bind_some H
                    refine (tint_Lighten.calls t3681.2.2 t3681.2.1 t3378.2.1 t3378.2.2.1 t3378.2.2.2.1 t3378.2.2.2.2.1 t3654.1 g3775 g3777 A3787 ((t3378.2.2.2.2.2.2.2.2.2.2.1).length) n3789 t3685 _ ⟨HGl0.out.pass HS.out⟩ ⟨HS.out.begin⟩ HA5426).mono ?_
                    rintro e_ w5427 ⟨rfl, hS⟩
                    replace HS : Aside0 (Sep (fps []) w [b14 g3775 g3777 t3378.2.1 t3378.2.2.1 t3378.2.2.2.1 t3378.2.2.2.2.1, b13 g3777 A3787 ((t3378.2.2.2.2.2.2.2.2.2.2.1).length) n3789 t3685.2.1, r7 A3787 ((t3378.2.2.2.2.2.2.2.2.2.2.1).length) n3789 t3685.2.2] w5427) := ⟨HS.out.call hS⟩
                    clear hS
                    by_cases c5428 : t3685.1 = true
                    · have H := if_yes c5428 H
                      have c5428b0 : t3685.1 = true := c5428
                      have c5428b1 : (!t3685.1) = false := by rw [c5428b0]; rfl
                      try rw [c5428b1]
                      clear c5428
                      go_wp2_with fail
                      obtain ⟨t3689, HA5429, H⟩ := bind_some H
                      refine (tint_Shadow.calls t3685.2.2 t3685.2.1 t3378.2.1 t3378.2.2.1 t3378.2.2.2.1 t3378.2.2.2.2.1 t3654.1 g3775 g3777 A3787 ((t3378.2.2.2.2.2.2.2.2.2.2.1).length) n3789 t3689 _ ⟨HGl0.out.pass HS.out⟩ ⟨HS.out.begin⟩ HA5429).mono ?_
                      rintro e_ w5430 ⟨rfl, hS⟩
                      replace HS : Aside0 (Sep (fps []) w [b14 g3775 g3777 t3378.2.1 t3378.2.2.1 t3378.2.2.2.1 t3378.2.2.2.2.1, b13 g3777 A3787 ((t3378.2.2.2.2.2.2.2.2.2.2.1).length) n3789 t3689.2, r7 A3787 ((t3378.2.2.2.2.2.2.2.2.2.2.1).length) n3789 t3685.2.2] w5430) := ⟨HS.out.call hS⟩
                      clear hS
                      by_cases c5431 : t3689.1 = 1
                      · have H := if_yes c5431 H
                        have c5431b0 : (t3689.1 == 1) = true := beq_iff_eq.mpr c5431
                        have c5431b1 : (t3689.1 != 1) = false := bne_eq_false_iff_eq.mpr c5431
                        clear c5431
                        go_wp2_with fail
                        obtain ⟨t3693, HA6160, H⟩ := bind_some H
                        refine (tint_Touch.calls _ t3685.2.2 t3689.2 t3378.2.1 t3378.2.2.1 t3378.2.2.2.1 t3378.2.2.2.2.1 t3654.1 g3775 g3777 A3787 ((t3378.2.2.2.2.2.2.2.2.2.2.1).length) n3789 t3693 _ ⟨HGl0.out.pass HS.out⟩ ⟨HS.out.begin⟩ HA6160).mono ?_
                        rintro e_ w6161 ⟨rfl, hS⟩
                        replace HS : Aside0 (Sep (fps []) w [b14 g3775 g3777 t3378.2.1 t3378.2.2.1 t3378.2.2.2.1 t3378.2.2.2.2.1, b13 g3777 A3787 ((t3378.2.2.2.2.2.2.2.2.2.2.1).length) n3789 t3693.2.1, r7 A3787 ((t3378.2.2.2.2.2.2.2.2.2.2.1).length) n3789 t3693.2.2] w6161) := ⟨HS.out.call hS⟩
                        clear hS
                        by_cases c6162 : t3693.1 = true
                        · have H := if_yes c6162 H
                          have c6162b0 : t3693.1 = true := c6162
                          have c6162b1 : (!t3693.1) = false := by rw [c6162b0]; rfl
                          clear c6162
                          go_wp2_with fail
                          obtain ⟨t3697, HA6163, H⟩ := bind_some H
                          refine (tint_Touch.calls _ t3693.2.2 t3693.2.1 t3378.2.1 t3378.2.2.1 t3378.2.2.2.1 t3378.2.2.2.2.1 t3654.1 g3775 g3777 A3787 ((t3378.2.2.2.2.2.2.2.2.2.2.1).length) n3789 t3697 _ ⟨HGl0.out.pass HS.out⟩ ⟨HS.out.begin⟩ HA6163).mono ?_
                          rintro e_ w6164 ⟨rfl, hS⟩
                          replace HS : Aside0 (Sep (fps []) w [b14 g3775 g3777 t3378.2.1 t3378.2.2.1 t3378.2.2.2.1 t3378.2.2.2.2.1, b13 g3777 A3787 ((t3378.2.2.2.2.2.2.2.2.2.2.1).length) n3789 t3697.2.1, r7 A3787 ((t3378.2.2.2.2.2.2.2.2.2.2.1).length) n3789 t3697.2.2] w6164) := ⟨HS.out.call hS⟩
                          clear hS
                          by_cases c6165 : t3697.1 = true
                          · have H := if_yes c6165 H
                            have c6165b0 : t3697.1 = true := c6165
                            have c6165b1 : (!t3697.1) = false := by rw [c6165b0]; rfl
                            try rw [c6165b1]
                            clear c6165
                            replace HS : Aside0 (Sep (fps []) w [] w6164) := ⟨HS.out.sub (.cons _ (.cons _ (.cons _ .slnil)))⟩
                            go_wp2_with fail
                            go_ret
                            rw [← some_eq H]
                            exact ⟨(by first | rfl | (simp [IntKind.wrap_u32]; done)), HS.out⟩
                          · have H := if_no c6165 H
                            have c6165b0 : t3697.1 = false := by simpa using c6165
                            have c6165b1 : (!t3697.1) = true := by rw [c6165b0]; rfl
                            try rw [c6165b1]
                            clear c6165
                            go_wp2_with fail
                            obtain ⟨t3713, HA6311, H⟩ := bind_some H
                            refine (ring_List.calls _ t3697.2.2 t3697.2.1 t3378.2.1 t3378.2.2.1 t3378.2.2.2.1 t3378.2.2.2.2.1 g3775 g3777 A3787 ((t3378.2.2.2.2.2.2.2.2.2.2.1).length) n3789 t3713 _ ⟨HGl0.out.pass HS.out⟩ ⟨HS.out.begin⟩ HA6311).mono ?_
                            rintro e_ w6312 ⟨A6314, m6315, n6316, rfl, hS⟩
                            replace HS : Aside0 (Sep (fps []) w [b14 g3775 g3777 t3378.2.1 t3378.2.2.1 t3378.2.2.2.1 t3378.2.2.2.2.1, b13 g3777 A3787 ((t3378.2.2.2.2.2.2.2.2.2.2.1).length) n3789 t3697.2.1, r7 A3787 ((t3378.2.2.2.2.2.2.2.2.2.2.1).length) n3789 t3697.2.2, r17 A6314 m6315 n6316 t3713] w6312) := ⟨HS.out.call hS⟩
                            clear hS
                            obtain rfl := (row_len (HS.out.at3)).symm
                            go_wp2_with (first | ((with_reducible refine gate_dst (N := 81) rfl ?_); refine slice_on (n := 1) ?hg (N := 81) ?hd (cs := #[.int .i64 (wrap64 (t3654.1 - 1))]) (t := 3) ?hr ?_; (case hd => rfl); (case hg => rfl); (case hr => first | (go_simp; done) | (go_simp; rfl)); intro g6318 hg w6319 hbox hb; replace HS : Aside0 (Sep (fps []) w [b14 g3775 g3777 t3378.2.1 t3378.2.2.1 t3378.2.2.2.1 t3378.2.2.2.2.1, b13 g3777 A3787 ((t3378.2.2.2.2.2.2.2.2.2.2.1).length) n3789 t3697.2.1, r7 A3787 ((t3378.2.2.2.2.2.2.2.2.2.2.1).length) n3789 t3697.2.2, r17 A6314 t3713.length n6316 t3713, b2 g6318 (wrap64 (t3654.1 - 1))] w6319) := ⟨HS.out.box hg hbox hb⟩; clear hg hbox hb))
                            obtain ⟨t3763, HA6321, H⟩ := bind_some H
                            refine (quitrentref01_Ints.calls _ t3713 [wrap64 (t3654.1 - 1)] A6314 n6316 (some ⟨g6318, 0, none⟩) 1 t3763 _ ⟨Rd.ownI (l := []) HS.out 3 rfl⟩ ⟨Rd.lit (l := []) (xs := [wrap64 (t3654.1 - 1)]) HS.out 4 rfl (by simp)⟩ ⟨HGl0.out.pass (l := []) HS.out⟩ ⟨Sep.start _⟩ HA6321).mono ?_
                            rintro e_ w6322 ⟨rfl, hS⟩
                            replace HS : Aside0 (Sep (fps []) w [b14 g3775 g3777 t3378.2.1 t3378.2.2.1 t3378.2.2.2.1 t3378.2.2.2.2.1, b13 g3777 A3787 ((t3378.2.2.2.2.2.2.2.2.2.2.1).length) n3789 t3697.2.1, r7 A3787 ((t3378.2.2.2.2.2.2.2.2.2.2.1).length) n3789 t3697.2.2, r17 A6314 t3713.length n6316 t3713, b2 g6318 (wrap64 (t3654.1 - 1))] w6322) := ⟨HS.out.call hS⟩
                            clear hS
                            replace HS : Aside0 (Sep (fps []) w [] w6322) := ⟨HS.out.sub (.cons _ (.cons _ (.cons _ (.cons _ (.cons _ .slnil)))))⟩
                            go_wp2_with fail
                            go_ret
                            rw [← some_eq H]
                            exact ⟨(by first | rfl | (simp [IntKind.wrap_u32]; done)), HS.out⟩
                        · have H := if_no c6162 H
                          have c6162b0 : t3693.1 = false := by simpa using c6162
                          have c6162b1 : (!t3693.1) = true := by rw [c6162b0]; rfl
                          clear c6162
                          replace HS : Aside0 (Sep (fps []) w [] w6161) := ⟨HS.out.sub (.cons _ (.cons _ (.cons _ .slnil)))⟩
                          go_wp2_with fail
                          go_ret
                          rw [← some_eq H]
                          exact ⟨(by first | rfl | (simp [IntKind.wrap_u32]; done)), HS.out⟩
                      · have H := if_no c5431 H
                        have c5431b0 : (t3689.1 == 1) = false := beq_eq_false_iff_ne.mpr c5431
                        have c5431b1 : (t3689.1 != 1) = true := bne_iff_ne.mpr c5431
                        clear c5431
                        replace HS : Aside0 (Sep (fps []) w [] w5430) := ⟨HS.out.sub (.cons _ (.cons _ (.cons _ .slnil)))⟩
                        go_wp2_with fail
                        go_ret
                        rw [← some_eq H]
                        exact ⟨(by first | rfl | (simp [IntKind.wrap_u32]; done)), HS.out⟩
                    · have H := if_no c5428 H
                      have c5428b0 : t3685.1 = false := by simpa using c5428
                      have c5428b1 : (!t3685.1) = true := by rw [c5428b0]; rfl
                      try rw [c5428b1]
                      clear c5428
                      replace HS : Aside0 (Sep (fps []) w [] w5427) := ⟨HS.out.sub (.cons _ (.cons _ (.cons _ .slnil)))⟩
                      go_wp2_with fail
                      go_ret
                      rw [← some_eq H]
                      exact ⟨(by first | rfl | (simp [IntKind.wrap_u32]; done)), HS.out⟩
                  · have H := if_no c5187 H
                    have c5187b0 : t3681.1 = false := by simpa using c5187
                    have c5187b1 : (!t3681.1) = true := by rw [c5187b0]; rfl
                    try rw [c5187b1]
                    clear c5187
                    replace HS : Aside0 (Sep (fps []) w [] w5186) := ⟨HS.out.sub (.cons _ (.cons _ (.cons _ .slnil)))⟩
                    go_wp2_with fail
                    go_ret
                    rw [← some_eq H]
                    exact ⟨(by first | rfl | (simp [IntKind.wrap_u32]; done)), HS.out⟩
                · have H := if_no c5184 H
                  have c5184b0 : t3677.1 = false := by simpa using c5184
                  have c5184b1 : (!t3677.1) = true := by rw [c5184b0]; rfl
                  try rw [c5184b1]
                  clear c5184
                  replace HS : Aside0 (Sep (fps []) w [] w5183) := ⟨HS.out.sub (.cons _ (.cons _ (.cons _ .slnil)))⟩
                  go_wp2_with fail
                  go_ret
                  rw [← some_eq H]
                  exact ⟨(by first | rfl | (simp [IntKind.wrap_u32]; done)), HS.out⟩
            · have H := if_no c4969 H
              have c4969b0 : t3669.1 = false := by simpa using c4969
              have c4969b1 : (!t3669.1) = true := by rw [c4969b0]; rfl
              try rw [c4969b1]
              clear c4969
              replace HS : Aside0 (Sep (fps []) w [] w4968) := ⟨HS.out.sub (.cons _ (.cons _ (.cons _ .slnil)))⟩
              go_wp2_with fail
              go_ret
              rw [← some_eq H]
              exact ⟨(by first | rfl | (simp [IntKind.wrap_u32]; done)), HS.out⟩
          · have H := if_no c4852 H
            have c4852b0 : t3662.1 = false := by simpa using c4852
            have c4852b1 : (!t3662.1) = true := by rw [c4852b0]; rfl
            try rw [c4852b1]
            clear c4852
            replace HS : Aside0 (Sep (fps []) w [] w4851) := ⟨HS.out.sub (.cons _ (.cons _ (.cons _ .slnil)))⟩
            go_wp2_with fail
            go_ret
            rw [← some_eq H]
            exact ⟨(by first | rfl | (simp [IntKind.wrap_u32]; done)), HS.out⟩
        · have H := if_no c4779 H
          have c4779b0 : t3658.1 = false := by simpa using c4779
          have c4779b1 : (!t3658.1) = true := by rw [c4779b0]; rfl
          try rw [c4779b1]
          clear c4779
          replace HS : Aside0 (Sep (fps []) w [] w4778) := ⟨HS.out.sub (.cons _ (.cons _ (.cons _ .slnil)))⟩
          go_wp2_with fail
          go_ret
          rw [← some_eq H]
          exact ⟨(by first | rfl | (simp [IntKind.wrap_u32]; done)), HS.out⟩
      · have H := if_no c4312 H
        have c4312b0 : (t3654.2.1 == 0) = false := beq_eq_false_iff_ne.mpr c4312
        have c4312b1 : (t3654.2.1 != 0) = true := bne_iff_ne.mpr c4312
        clear c4312
        replace HS : Aside0 (Sep (fps []) w [] w4311) := ⟨HS.out.sub (.cons _ (.cons _ (.cons _ .slnil)))⟩
        go_wp2_with fail
        go_ret
        rw [← some_eq H]
        exact ⟨(by first | rfl | (simp [IntKind.wrap_u32]; done)), HS.out⟩
    · have H := if_no c3795 H
      have c3795b0 : t3378.1 = false := by simpa using c3795
      have c3795b1 : (!t3378.1) = true := by rw [c3795b0]; rfl
      try rw [c3795b1]
      clear c3795
      replace HS : Aside0 (Sep (fps []) w [b14 g3775 g3777 t3378.2.1 t3378.2.2.1 t3378.2.2.2.1 t3378.2.2.2.2.1, b13 g3777 A3787 ((t3378.2.2.2.2.2.2.2.2.2.2.1).length) n3789 t3378.2.2.2.2.2.1, r7 A3787 ((t3378.2.2.2.2.2.2.2.2.2.2.1).length) n3789 t3378.2.2.2.2.2.2.2.2.2.2.1] w3766) := ⟨HS.out.sub (.cons_cons _ (.cons _ (.cons_cons _ (.cons _ (.cons _ (.cons _ (.cons_cons _ (.cons _ .slnil))))))))⟩
      replace HS : Aside0 (Sep (fps []) w [] w3766) := ⟨HS.out.sub (.cons _ (.cons _ (.cons _ .slnil)))⟩
      go_wp2_with fail
      go_ret
      rw [← some_eq H]
      exact ⟨(by first | rfl | (simp [IntKind.wrap_u32]; done)), HS.out⟩
  · have H := sum_r H
    have H := sum_r H
    refine (quitrentlaw12_Opened.calls _ 2 16 1 1 (.inr (.inr t3379)) _ ⟨HGl0.out.pass (l := []) HS.out⟩ ⟨Sep.start _⟩ HA3376).mono ?_
    rintro e_ w6323 ⟨g6329, rfl, g6330, A6331, m6332, n6333, A6335, m6336, n6337, A6339, m6340, n6341, hS⟩
    replace HS : Aside0 (Sep (fps []) w [b21 g6329 g6330 0 0 0 0 0 0 0 0 0 A6331 m6332 n6333 A6335 m6336 n6337 0, b18 g6330 t3379.2.1 t3379.2.2.1 A6339 m6340 n6341, r17 A6331 m6332 n6333 t3379.2.2.2.1, r17 A6335 m6336 n6337 t3379.2.2.2.2.1, r17 A6339 m6340 n6341 t3379.2.2.2.2.2] w6323) := ⟨HS.out.call hS⟩
    clear hS
    obtain rfl := (row_len (HS.out.at2)).symm
    obtain rfl := (row_len (HS.out.at3)).symm
    obtain rfl := (row_len (HS.out.at4)).symm
    by_cases c6343 : t3379.1 = true
    · have H := if_yes c6343 H
      have c6343b0 : t3379.1 = true := c6343
      have c6343b1 : (!t3379.1) = false := by rw [c6343b0]; rfl
      try rw [c6343b1]
      clear c6343
      replace HS : Aside0 (Sep (fps []) w [] w6323) := ⟨HS.out.sub (.cons _ (.cons _ (.cons _ (.cons _ (.cons _ .slnil)))))⟩
      go_wp2_with fail
      obtain ⟨t3654, HA6344, H⟩ := bind_some H
      refine (obj_Make_nil.calls _ 1 1 t3654 _ ⟨HGl0.out.pass (l := []) HS.out⟩ ⟨Sep.start _⟩ HA6344).mono ?_
      rintro e_ w6345 ⟨rfl, hS⟩
      replace HS : Aside0 (Sep (fps []) w [] w6345) := ⟨HS.out.call hS⟩
      clear hS
      by_cases c6346 : t3654.2 = 0
      · have H := if_yes c6346 H
        have c6346b0 : (t3654.2 == 0) = true := beq_iff_eq.mpr c6346
        have c6346b1 : (t3654.2 != 0) = false := bne_eq_false_iff_eq.mpr c6346
        clear c6346
        go_wp2_with fail
        obtain ⟨t3658, HA6347, H⟩ := bind_some H
        refine (tint_Dye_nil.calls _ t3654.1 t3658 _ ⟨HGl0.out.pass (l := []) HS.out⟩ ⟨Sep.start _⟩ HA6347).mono ?_
        rintro e_ w6348 ⟨rfl, hS⟩
        replace HS : Aside0 (Sep (fps []) w [] w6348) := ⟨HS.out.call hS⟩
        clear hS
        by_cases c6349 : t3658 = true
        · have H := if_yes c6349 H
          have c6349b0 : t3658 = true := c6349
          have c6349b1 : (!t3658) = false := by rw [c6349b0]; rfl
          try rw [c6349b1]
          clear c6349
          go_wp2_with fail
          obtain ⟨t3662, HA6350, H⟩ := bind_some H
          refine (tint_Black_nil.calls t3654.1 t3662 _ ⟨HGl0.out.pass (l := []) HS.out⟩ ⟨Sep.start _⟩ HA6350).mono ?_
          rintro e_ w6351 ⟨rfl, hS⟩
          replace HS : Aside0 (Sep (fps []) w [] w6351) := ⟨HS.out.call hS⟩
          clear hS
          by_cases c6352 : t3662 = true
          · have H := if_yes c6352 H
            have c6352b0 : t3662 = true := c6352
            have c6352b1 : (!t3662) = false := by rw [c6352b0]; rfl
            try rw [c6352b1]
            clear c6352
            go_wp2_with fail
            obtain ⟨t3666, HA6353, H⟩ := bind_some H
            refine (tint_Turn_nil.calls t3666 _ ⟨HGl0.out.pass (l := []) HS.out⟩ ⟨Sep.start _⟩ HA6353).mono ?_
            rintro e_ w6354 ⟨rfl, hS⟩
            replace HS : Aside0 (Sep (fps []) w [] w6354) := ⟨HS.out.call hS⟩
            clear hS
            go_wp2_with fail
            obtain ⟨t3669, HA6355, H⟩ := bind_some H
            refine (tint_Begin_nil.calls 1 t3669 _ ⟨HGl0.out.pass (l := []) HS.out⟩ ⟨Sep.start _⟩ HA6355).mono ?_
            rintro e_ w6356 ⟨rfl, hS⟩
            replace HS : Aside0 (Sep (fps []) w [] w6356) := ⟨HS.out.call hS⟩
            clear hS
            by_cases c6357 : t3669 = true
            · have H := if_yes c6357 H
              have c6357b0 : t3669 = true := c6357
              have c6357b1 : (!t3669) = false := by rw [c6357b0]; rfl
              try rw [c6357b1]
              clear c6357
              go_wp2_with fail
              obtain ⟨t3673, HA6358, H⟩ := bind_some H
              refine (tint_Black_nil.calls t3654.1 t3673 _ ⟨HGl0.out.pass (l := []) HS.out⟩ ⟨Sep.start _⟩ HA6358).mono ?_
              rintro e_ w6359 ⟨rfl, hS⟩
              replace HS : Aside0 (Sep (fps []) w [] w6359) := ⟨HS.out.call hS⟩
              clear hS
              by_cases c6360 : t3673 = true
              · have H := if_yes c6360 H
                have c6360b0 : t3673 = true := c6360
                have c6360b1 : (!t3673) = false := by rw [c6360b0]; rfl
                clear c6360
                go_wp2_with fail
                go_ret
                rw [← some_eq H]
                exact ⟨(by first | rfl | (simp [IntKind.wrap_u32]; done)), HS.out⟩
              · have H := if_no c6360 H
                have c6360b0 : t3673 = false := by simpa using c6360
                have c6360b1 : (!t3673) = true := by rw [c6360b0]; rfl
                clear c6360
                go_wp2_with fail
                obtain ⟨t3677, HA6361, H⟩ := bind_some H
                refine (tint_Deepen_nil.calls _ t3654.1 t3677 _ ⟨HGl0.out.pass (l := []) HS.out⟩ ⟨Sep.start _⟩ HA6361).mono ?_
                rintro e_ w6362 ⟨rfl, hS⟩
                replace HS : Aside0 (Sep (fps []) w [] w6362) := ⟨HS.out.call hS⟩
                clear hS
                by_cases c6363 : t3677 = true
                · have H := if_yes c6363 H
                  have c6363b0 : t3677 = true := c6363
                  have c6363b1 : (!t3677) = false := by rw [c6363b0]; rfl
                  try rw [c6363b1]
                  clear c6363
                  go_wp2_with fail
                  obtain ⟨t3681, HA6364, H⟩ := bind_some H
                  refine (tint_Deepen_nil.calls _ t3654.1 t3681 _ ⟨HGl0.out.pass (l := []) HS.out⟩ ⟨Sep.start _⟩ HA6364).mono ?_
                  rintro e_ w6365 ⟨rfl, hS⟩
                  replace HS : Aside0 (Sep (fps []) w [] w6365) := ⟨HS.out.call hS⟩
                  clear hS
                  by_cases c6366 : t3681 = true
                  · have H := if_yes c6366 H
                    have c6366b0 : t3681 = true := c6366
                    have c6366b1 : (!t3681) = false := by rw [c6366b0]; rfl
                    try rw [c6366b1]
                    clear c6366
                    go_wp2_with fail
                    obtain ⟨t3685, HA6367, H⟩ := bind_some H
                    refine (tint_Lighten_nil.calls t3654.1 t3685 _ ⟨HGl0.out.pass (l := []) HS.out⟩ ⟨Sep.start _⟩ HA6367).mono ?_
                    rintro e_ w6368 ⟨rfl, hS⟩
                    replace HS : Aside0 (Sep (fps []) w [] w6368) := ⟨HS.out.call hS⟩
                    clear hS
                    by_cases c6369 : t3685 = true
                    · have H := if_yes c6369 H
                      have c6369b0 : t3685 = true := c6369
                      have c6369b1 : (!t3685) = false := by rw [c6369b0]; rfl
                      try rw [c6369b1]
                      clear c6369
                      go_wp2_with fail
                      obtain ⟨t3689, HA6370, H⟩ := bind_some H
                      refine (tint_Shadow_nil.calls t3654.1 t3689 _ ⟨HGl0.out.pass (l := []) HS.out⟩ ⟨Sep.start _⟩ HA6370).mono ?_
                      rintro e_ w6371 ⟨rfl, hS⟩
                      replace HS : Aside0 (Sep (fps []) w [] w6371) := ⟨HS.out.call hS⟩
                      clear hS
                      by_cases c6372 : t3689 = 1
                      · have H := if_yes c6372 H
                        have c6372b0 : (t3689 == 1) = true := beq_iff_eq.mpr c6372
                        have c6372b1 : (t3689 != 1) = false := bne_eq_false_iff_eq.mpr c6372
                        clear c6372
                        go_wp2_with fail
                        obtain ⟨t3693, HA6373, H⟩ := bind_some H
                        refine (tint_Touch_nil.calls _ t3654.1 t3693 _ ⟨HGl0.out.pass (l := []) HS.out⟩ ⟨Sep.start _⟩ HA6373).mono ?_
                        rintro e_ w6374 ⟨rfl, hS⟩
                        replace HS : Aside0 (Sep (fps []) w [] w6374) := ⟨HS.out.call hS⟩
                        clear hS
                        by_cases c6375 : t3693 = true
                        · have H := if_yes c6375 H
                          have c6375b0 : t3693 = true := c6375
                          have c6375b1 : (!t3693) = false := by rw [c6375b0]; rfl
                          clear c6375
                          go_wp2_with fail
                          obtain ⟨t3697, HA6376, H⟩ := bind_some H
                          refine (tint_Touch_nil.calls _ t3654.1 t3697 _ ⟨HGl0.out.pass (l := []) HS.out⟩ ⟨Sep.start _⟩ HA6376).mono ?_
                          rintro e_ w6377 ⟨rfl, hS⟩
                          replace HS : Aside0 (Sep (fps []) w [] w6377) := ⟨HS.out.call hS⟩
                          clear hS
                          by_cases c6378 : t3697 = true
                          · have H := if_yes c6378 H
                            have c6378b0 : t3697 = true := c6378
                            have c6378b1 : (!t3697) = false := by rw [c6378b0]; rfl
                            try rw [c6378b1]
                            clear c6378
                            go_wp2_with fail
                            go_ret
                            rw [← some_eq H]
                            exact ⟨(by first | rfl | (simp [IntKind.wrap_u32]; done)), HS.out⟩
                          · have H := if_no c6378 H
                            have c6378b0 : t3697 = false := by simpa using c6378
                            have c6378b1 : (!t3697) = true := by rw [c6378b0]; rfl
                            try rw [c6378b1]
                            clear c6378
                            go_wp2_with fail
                            obtain ⟨t3713, HA6379, H⟩ := bind_some H
                            refine (ring_List_nil.calls t3713 _ ⟨HGl0.out.pass (l := []) HS.out⟩ ⟨Sep.start _⟩ HA6379).mono ?_
                            rintro e_ w6380 ⟨A6382, m6383, n6384, rfl, hS⟩
                            replace HS : Aside0 (Sep (fps []) w [r17 A6382 m6383 n6384 t3713] w6380) := ⟨HS.out.call hS⟩
                            clear hS
                            obtain rfl := (row_len (HS.out.at0)).symm
                            go_wp2_with (first | ((with_reducible refine gate_dst (N := 81) rfl ?_); refine slice_on (n := 1) ?hg (N := 81) ?hd (cs := #[.int .i64 (wrap64 (t3654.1 - 1))]) (t := 3) ?hr ?_; (case hd => rfl); (case hg => rfl); (case hr => first | (go_simp; done) | (go_simp; rfl)); intro g6386 hg w6387 hbox hb; replace HS : Aside0 (Sep (fps []) w [r17 A6382 t3713.length n6384 t3713, b2 g6386 (wrap64 (t3654.1 - 1))] w6387) := ⟨HS.out.box hg hbox hb⟩; clear hg hbox hb))
                            obtain ⟨t3763, HA6389, H⟩ := bind_some H
                            refine (quitrentref01_Ints.calls _ t3713 [wrap64 (t3654.1 - 1)] A6382 n6384 (some ⟨g6386, 0, none⟩) 1 t3763 _ ⟨Rd.ownI (l := []) HS.out 0 rfl⟩ ⟨Rd.lit (l := []) (xs := [wrap64 (t3654.1 - 1)]) HS.out 1 rfl (by simp)⟩ ⟨HGl0.out.pass (l := []) HS.out⟩ ⟨Sep.start _⟩ HA6389).mono ?_
                            rintro e_ w6390 ⟨rfl, hS⟩
                            replace HS : Aside0 (Sep (fps []) w [r17 A6382 t3713.length n6384 t3713, b2 g6386 (wrap64 (t3654.1 - 1))] w6390) := ⟨HS.out.call hS⟩
                            clear hS
                            replace HS : Aside0 (Sep (fps []) w [] w6390) := ⟨HS.out.sub (.cons _ (.cons _ .slnil))⟩
                            go_wp2_with fail
                            go_ret
                            rw [← some_eq H]
                            exact ⟨(by first | rfl | (simp [IntKind.wrap_u32]; done)), HS.out⟩
                        · have H := if_no c6375 H
                          have c6375b0 : t3693 = false := by simpa using c6375
                          have c6375b1 : (!t3693) = true := by rw [c6375b0]; rfl
                          clear c6375
                          go_wp2_with fail
                          go_ret
                          rw [← some_eq H]
                          exact ⟨(by first | rfl | (simp [IntKind.wrap_u32]; done)), HS.out⟩
                      · have H := if_no c6372 H
                        have c6372b0 : (t3689 == 1) = false := beq_eq_false_iff_ne.mpr c6372
                        have c6372b1 : (t3689 != 1) = true := bne_iff_ne.mpr c6372
                        clear c6372
                        go_wp2_with fail
                        go_ret
                        rw [← some_eq H]
                        exact ⟨(by first | rfl | (simp [IntKind.wrap_u32]; done)), HS.out⟩
                    · have H := if_no c6369 H
                      have c6369b0 : t3685 = false := by simpa using c6369
                      have c6369b1 : (!t3685) = true := by rw [c6369b0]; rfl
                      try rw [c6369b1]
                      clear c6369
                      go_wp2_with fail
                      go_ret
                      rw [← some_eq H]
                      exact ⟨(by first | rfl | (simp [IntKind.wrap_u32]; done)), HS.out⟩
                  · have H := if_no c6366 H
                    have c6366b0 : t3681 = false := by simpa using c6366
                    have c6366b1 : (!t3681) = true := by rw [c6366b0]; rfl
                    try rw [c6366b1]
                    clear c6366
                    go_wp2_with fail
                    go_ret
                    rw [← some_eq H]
                    exact ⟨(by first | rfl | (simp [IntKind.wrap_u32]; done)), HS.out⟩
                · have H := if_no c6363 H
                  have c6363b0 : t3677 = false := by simpa using c6363
                  have c6363b1 : (!t3677) = true := by rw [c6363b0]; rfl
                  try rw [c6363b1]
                  clear c6363
                  go_wp2_with fail
                  go_ret
                  rw [← some_eq H]
                  exact ⟨(by first | rfl | (simp [IntKind.wrap_u32]; done)), HS.out⟩
            · have H := if_no c6357 H
              have c6357b0 : t3669 = false := by simpa using c6357
              have c6357b1 : (!t3669) = true := by rw [c6357b0]; rfl
              try rw [c6357b1]
              clear c6357
              go_wp2_with fail
              go_ret
              rw [← some_eq H]
              exact ⟨(by first | rfl | (simp [IntKind.wrap_u32]; done)), HS.out⟩
          · have H := if_no c6352 H
            have c6352b0 : t3662 = false := by simpa using c6352
            have c6352b1 : (!t3662) = true := by rw [c6352b0]; rfl
            try rw [c6352b1]
            clear c6352
            go_wp2_with fail
            go_ret
            rw [← some_eq H]
            exact ⟨(by first | rfl | (simp [IntKind.wrap_u32]; done)), HS.out⟩
        · have H := if_no c6349 H
          have c6349b0 : t3658 = false := by simpa using c6349
          have c6349b1 : (!t3658) = true := by rw [c6349b0]; rfl
          try rw [c6349b1]
          clear c6349
          go_wp2_with fail
          go_ret
          rw [← some_eq H]
          exact ⟨(by first | rfl | (simp [IntKind.wrap_u32]; done)), HS.out⟩
      · have H := if_no c6346 H
        have c6346b0 : (t3654.2 == 0) = false := beq_eq_false_iff_ne.mpr c6346
        have c6346b1 : (t3654.2 != 0) = true := bne_iff_ne.mpr c6346
        clear c6346
        go_wp2_with fail
        go_ret
        rw [← some_eq H]
        exact ⟨(by first | rfl | (simp [IntKind.wrap_u32]; done)), HS.out⟩
    · have H := if_no c6343 H
      have c6343b0 : t3379.1 = false := by simpa using c6343
      have c6343b1 : (!t3379.1) = true := by rw [c6343b0]; rfl
      try rw [c6343b1]
      clear c6343
      replace HS : Aside0 (Sep (fps []) w [] w6323) := ⟨HS.out.sub (.cons _ (.cons _ (.cons _ (.cons _ (.cons _ .slnil)))))⟩
      go_wp2_with fail
      go_ret
      rw [← some_eq H]
      exact ⟨(by first | rfl | (simp [IntKind.wrap_u32]; done)), HS.out⟩

set_option maxHeartbeats 30000000 in
set_option maxRecDepth 100000 in
theorem quitrentlaw13_TintNobody.calls (k : Nat) (a1 : Int) (a2 : Int) (r : Bool) (w : World)  (HGl0 : Aside0 (Gl 0 #[.int .i64 0, .int .i64 0, .int .i64 0, .int .i64 0, .int .i64 0] (fps []) w)) (HS : Aside0 (Sep (fps []) w [] w)) (H : Aside0 (quitrentlaw13_TintNobody.f k a1 a2 = some r)) :
    Calls Tryz.prog 4 #[.int .i64 a1, .int .i64 a2] w fun e w' => e = .returned (.bool r) ∧ Sep (fps []) w [] w' := by
  unfold quitrentlaw13_TintNobody.f at H
  go_enter Tryz.func4, Tryz.ntmps4
  go_wp2_with fail
  obtain ⟨t58, HA59, H⟩ := bind_some H
  refine (tint_Turn_nil.calls t58 _ ⟨HGl0.out.pass (l := []) HS.out⟩ ⟨Sep.start _⟩ HA59).mono ?_
  rintro e_ w60 ⟨rfl, hS⟩
  replace HS : Aside0 (Sep (fps []) w [] w60) := ⟨HS.out.call hS⟩
  clear hS
  go_wp2_with fail
  obtain ⟨t67, HA68, H⟩ := bind_some H
  refine (tint_At_nil.calls t67 _ ⟨HGl0.out.pass (l := []) HS.out⟩ ⟨Sep.start _⟩ HA68).mono ?_
  rintro e_ w69 ⟨rfl, hS⟩
  replace HS : Aside0 (Sep (fps []) w [] w69) := ⟨HS.out.call hS⟩
  clear hS
  go_wp2_with fail
  obtain ⟨t73, HA74, H⟩ := bind_some H
  refine (tint_Parity_nil.calls t73 _ ⟨HGl0.out.pass (l := []) HS.out⟩ ⟨Sep.start _⟩ HA74).mono ?_
  rintro e_ w75 ⟨rfl, hS⟩
  replace HS : Aside0 (Sep (fps []) w [] w75) := ⟨HS.out.call hS⟩
  clear hS
  by_cases c76 : t73 = 0
  · have H := if_yes c76 H
    have c76b0 : (t73 == 0) = true := beq_iff_eq.mpr c76
    have c76b1 : (t73 != 0) = false := bne_eq_false_iff_eq.mpr c76
    clear c76
    go_wp2_with fail
    obtain ⟨t80, HA81, H⟩ := bind_some H
    refine (tint_Phase_nil.calls t80 _ ⟨HGl0.out.pass (l := []) HS.out⟩ ⟨Sep.start _⟩ HA81).mono ?_
    rintro e_ w82 ⟨rfl, hS⟩
    replace HS : Aside0 (Sep (fps []) w [] w82) := ⟨HS.out.call hS⟩
    clear hS
    by_cases c83 : t80 = 0
    · have H := if_yes c83 H
      have c83b0 : (t80 == 0) = true := beq_iff_eq.mpr c83
      have c83b1 : (t80 != 0) = false := bne_eq_false_iff_eq.mpr c83
      clear c83
      go_wp2_with fail
      obtain ⟨t85, HA86, H⟩ := bind_some H
      refine (tint_Begin_nil.calls a2 t85 _ ⟨HGl0.out.pass (l := []) HS.out⟩ ⟨Sep.start _⟩ HA86).mono ?_
      rintro e_ w87 ⟨rfl, hS⟩
      replace HS : Aside0 (Sep (fps []) w [] w87) := ⟨HS.out.call hS⟩
      clear hS
      by_cases c88 : t85 = true
      · have H := if_yes c88 H
        have c88b0 : t85 = true := c88
        have c88b1 : (!t85) = false := by rw [c88b0]; rfl
        clear c88
        go_wp2_with fail
        go_ret
        rw [← some_eq H]
        exact ⟨(by first | rfl | (simp [IntKind.wrap_u32]; done)), HS.out⟩
      · have H := if_no c88 H
        have c88b0 : t85 = false := by simpa using c88
        have c88b1 : (!t85) = true := by rw [c88b0]; rfl
        clear c88
        by_cases c89 : t67.1 = 0
        · have H := if_yes c89 H
          have c89b0 : (t67.1 == 0) = true := beq_iff_eq.mpr c89
          have c89b1 : (t67.1 != 0) = false := bne_eq_false_iff_eq.mpr c89
          clear c89
          by_cases c90 : t67.2 = 0
          · have H := if_yes c90 H
            have c90b0 : (t67.2 == 0) = true := beq_iff_eq.mpr c90
            have c90b1 : (t67.2 != 0) = false := bne_eq_false_iff_eq.mpr c90
            clear c90
            go_wp2_with fail
            obtain ⟨t110, HA111, H⟩ := bind_some H
            refine (tint_Move_nil.calls a1 a2 t110 _ ⟨HGl0.out.pass (l := []) HS.out⟩ ⟨Sep.start _⟩ HA111).mono ?_
            rintro e_ w112 ⟨rfl, hS⟩
            replace HS : Aside0 (Sep (fps []) w [] w112) := ⟨HS.out.call hS⟩
            clear hS
            by_cases c113 : t110 = true
            · have H := if_yes c113 H
              have c113b0 : t110 = true := c113
              have c113b1 : (!t110) = false := by rw [c113b0]; rfl
              clear c113
              go_wp2_with fail
              go_ret
              rw [← some_eq H]
              exact ⟨(by first | rfl | (simp [IntKind.wrap_u32]; done)), HS.out⟩
            · have H := if_no c113 H
              have c113b0 : t110 = false := by simpa using c113
              have c113b1 : (!t110) = true := by rw [c113b0]; rfl
              clear c113
              go_wp2_with fail
              obtain ⟨t634, HA635, H⟩ := bind_some H
              refine (tint_Dye_nil.calls _ a1 t634 _ ⟨HGl0.out.pass (l := []) HS.out⟩ ⟨Sep.start _⟩ HA635).mono ?_
              rintro e_ w636 ⟨rfl, hS⟩
              replace HS : Aside0 (Sep (fps []) w [] w636) := ⟨HS.out.call hS⟩
              clear hS
              by_cases c637 : t634 = true
              · have H := if_yes c637 H
                have c637b0 : t634 = true := c637
                have c637b1 : (!t634) = false := by rw [c637b0]; rfl
                clear c637
                go_wp2_with fail
                go_ret
                rw [← some_eq H]
                exact ⟨(by first | rfl | (simp [IntKind.wrap_u32]; done)), HS.out⟩
              · have H := if_no c637 H
                have c637b0 : t634 = false := by simpa using c637
                have c637b1 : (!t634) = true := by rw [c637b0]; rfl
                clear c637
                go_wp2_with fail
                obtain ⟨t666, HA667, H⟩ := bind_some H
                refine (tint_Black_nil.calls a1 t666 _ ⟨HGl0.out.pass (l := []) HS.out⟩ ⟨Sep.start _⟩ HA667).mono ?_
                rintro e_ w668 ⟨rfl, hS⟩
                replace HS : Aside0 (Sep (fps []) w [] w668) := ⟨HS.out.call hS⟩
                clear hS
                by_cases c669 : t666 = true
                · have H := if_yes c669 H
                  have c669b0 : t666 = true := c669
                  have c669b1 : (!t666) = false := by rw [c669b0]; rfl
                  clear c669
                  go_wp2_with fail
                  go_ret
                  rw [← some_eq H]
                  exact ⟨(by first | rfl | (simp [IntKind.wrap_u32]; done)), HS.out⟩
                · have H := if_no c669 H
                  have c669b0 : t666 = false := by simpa using c669
                  have c669b1 : (!t666) = true := by rw [c669b0]; rfl
                  clear c669
                  go_wp2_with fail
                  obtain ⟨t733, HA734, H⟩ := bind_some H
                  refine (tint_Paint_nil.calls _ a1 t733 _ ⟨HGl0.out.pass (l := []) HS.out⟩ ⟨Sep.start _⟩ HA734).mono ?_
                  rintro e_ w735 ⟨rfl, hS⟩
                  replace HS : Aside0 (Sep (fps []) w [] w735) := ⟨HS.out.call hS⟩
                  clear hS
                  by_cases c736 : t733 = true
                  · have H := if_yes c736 H
                    have c736b0 : t733 = true := c736
                    have c736b1 : (!t733) = false := by rw [c736b0]; rfl
                    clear c736
                    go_wp2_with fail
                    go_ret
                    rw [← some_eq H]
                    exact ⟨(by first | rfl | (simp [IntKind.wrap_u32]; done)), HS.out⟩
                  · have H := if_no c736 H
                    have c736b0 : t733 = false := by simpa using c736
                    have c736b1 : (!t733) = true := by rw [c736b0]; rfl
                    clear c736
                    go_wp2_with fail
                    obtain ⟨t899, HA900, H⟩ := bind_some H
                    refine (tint_Touch_nil.calls _ a1 t899 _ ⟨HGl0.out.pass (l := []) HS.out⟩ ⟨Sep.start _⟩ HA900).mono ?_
                    rintro e_ w901 ⟨rfl, hS⟩
                    replace HS : Aside0 (Sep (fps []) w [] w901) := ⟨HS.out.call hS⟩
                    clear hS
                    by_cases c902 : t899 = true
                    · have H := if_yes c902 H
                      have c902b0 : t899 = true := c902
                      have c902b1 : (!t899) = false := by rw [c902b0]; rfl
                      try rw [c902b1]
                      clear c902
                      go_wp2_with fail
                      go_ret
                      rw [← some_eq H]
                      exact ⟨(by first | rfl | (simp [IntKind.wrap_u32]; done)), HS.out⟩
                    · have H := if_no c902 H
                      have c902b0 : t899 = false := by simpa using c902
                      have c902b1 : (!t899) = true := by rw [c902b0]; rfl
                      try rw [c902b1]
                      clear c902
                      go_wp2_with fail
                      obtain ⟨t927, HA928, H⟩ := bind_some H
                      refine (tint_Dead_nil.calls a1 t927 _ ⟨HGl0.out.pass (l := []) HS.out⟩ ⟨Sep.start _⟩ HA928).mono ?_
                      rintro e_ w929 ⟨rfl, hS⟩
                      replace HS : Aside0 (Sep (fps []) w [] w929) := ⟨HS.out.call hS⟩
                      clear hS
                      by_cases c930 : t927 = true
                      · have H := if_yes c930 H
                        have c930b0 : t927 = true := c930
                        have c930b1 : (!t927) = false := by rw [c930b0]; rfl
                        try rw [c930b1]
                        clear c930
                        go_wp2_with fail
                        go_ret
                        rw [← some_eq H]
                        exact ⟨(by first | rfl | (simp [IntKind.wrap_u32]; done)), HS.out⟩
                      · have H := if_no c930 H
                        have c930b0 : t927 = false := by simpa using c930
                        have c930b1 : (!t927) = true := by rw [c930b0]; rfl
                        try rw [c930b1]
                        clear c930
                        go_wp2_with fail
                        obtain ⟨t998, HA999, H⟩ := bind_some H
                        refine (tint_Kill_nil.calls _ a1 t998 _ ⟨HGl0.out.pass (l := []) HS.out⟩ ⟨Sep.start _⟩ HA999).mono ?_
                        rintro e_ w1000 ⟨rfl, hS⟩
                        replace HS : Aside0 (Sep (fps []) w [] w1000) := ⟨HS.out.call hS⟩
                        clear hS
                        by_cases c1001 : t998 = true
                        · have H := if_yes c1001 H
                          have c1001b0 : t998 = true := c1001
                          have c1001b1 : (!t998) = false := by rw [c1001b0]; rfl
                          try rw [c1001b1]
                          clear c1001
                          go_wp2_with fail
                          go_ret
                          rw [← some_eq H]
                          exact ⟨(by first | rfl | (simp [IntKind.wrap_u32]; done)), HS.out⟩
                        · have H := if_no c1001 H
                          have c1001b0 : t998 = false := by simpa using c1001
                          have c1001b1 : (!t998) = true := by rw [c1001b0]; rfl
                          try rw [c1001b1]
                          clear c1001
                          go_wp2_with fail
                          obtain ⟨t1045, HA1046, H⟩ := bind_some H
                          refine (tint_Shadow_nil.calls a1 t1045 _ ⟨HGl0.out.pass (l := []) HS.out⟩ ⟨Sep.start _⟩ HA1046).mono ?_
                          rintro e_ w1047 ⟨rfl, hS⟩
                          replace HS : Aside0 (Sep (fps []) w [] w1047) := ⟨HS.out.call hS⟩
                          clear hS
                          by_cases c1048 : t1045 = 0
                          · have H := if_yes c1048 H
                            have c1048b0 : (t1045 == 0) = true := beq_iff_eq.mpr c1048
                            have c1048b1 : (t1045 != 0) = false := bne_eq_false_iff_eq.mpr c1048
                            clear c1048
                            go_wp2_with fail
                            obtain ⟨t1160, HA1161, H⟩ := bind_some H
                            refine (tint_Deepen_nil.calls _ a1 t1160 _ ⟨HGl0.out.pass (l := []) HS.out⟩ ⟨Sep.start _⟩ HA1161).mono ?_
                            rintro e_ w1162 ⟨rfl, hS⟩
                            replace HS : Aside0 (Sep (fps []) w [] w1162) := ⟨HS.out.call hS⟩
                            clear hS
                            by_cases c1163 : t1160 = true
                            · have H := if_yes c1163 H
                              have c1163b0 : t1160 = true := c1163
                              have c1163b1 : (!t1160) = false := by rw [c1163b0]; rfl
                              try rw [c1163b1]
                              clear c1163
                              go_wp2_with fail
                              go_ret
                              rw [← some_eq H]
                              exact ⟨(by first | rfl | (simp [IntKind.wrap_u32]; done)), HS.out⟩
                            · have H := if_no c1163 H
                              have c1163b0 : t1160 = false := by simpa using c1163
                              have c1163b1 : (!t1160) = true := by rw [c1163b0]; rfl
                              try rw [c1163b1]
                              clear c1163
                              go_wp2_with fail
                              obtain ⟨t1289, HA1290, H⟩ := bind_some H
                              refine (tint_Lighten_nil.calls a1 t1289 _ ⟨HGl0.out.pass (l := []) HS.out⟩ ⟨Sep.start _⟩ HA1290).mono ?_
                              rintro e_ w1291 ⟨rfl, hS⟩
                              replace HS : Aside0 (Sep (fps []) w [] w1291) := ⟨HS.out.call hS⟩
                              clear hS
                              by_cases c1292 : t1289 = true
                              · have H := if_yes c1292 H
                                have c1292b0 : t1289 = true := c1292
                                have c1292b1 : (!t1289) = false := by rw [c1292b0]; rfl
                                try rw [c1292b1]
                                clear c1292
                                go_wp2_with fail
                                go_ret
                                rw [← some_eq H]
                                exact ⟨(by first | rfl | (simp [IntKind.wrap_u32]; done)), HS.out⟩
                              · have H := if_no c1292 H
                                have c1292b0 : t1289 = false := by simpa using c1292
                                have c1292b1 : (!t1289) = true := by rw [c1292b0]; rfl
                                try rw [c1292b1]
                                clear c1292
                                go_wp2_with fail
                                obtain ⟨t1332, HA1333, H⟩ := bind_some H
                                refine (tint_Counted_nil.calls a1 a2 t1332 _ ⟨HGl0.out.pass (l := []) HS.out⟩ ⟨Sep.start _⟩ HA1333).mono ?_
                                rintro e_ w1334 ⟨rfl, hS⟩
                                replace HS : Aside0 (Sep (fps []) w [] w1334) := ⟨HS.out.call hS⟩
                                clear hS
                                by_cases c1335 : t1332 = true
                                · have H := if_yes c1335 H
                                  have c1335b0 : t1332 = true := c1335
                                  have c1335b1 : (!t1332) = false := by rw [c1335b0]; rfl
                                  try rw [c1335b1]
                                  clear c1335
                                  go_wp2_with fail
                                  go_ret
                                  rw [← some_eq H]
                                  exact ⟨(by first | rfl | (simp [IntKind.wrap_u32]; done)), HS.out⟩
                                · have H := if_no c1335 H
                                  have c1335b0 : t1332 = false := by simpa using c1335
                                  have c1335b1 : (!t1332) = true := by rw [c1335b0]; rfl
                                  try rw [c1335b1]
                                  clear c1335
                                  go_wp2_with fail
                                  obtain ⟨t1399, HA1400, H⟩ := bind_some H
                                  refine (tint_Done_nil.calls _ a1 t1399 _ ⟨HGl0.out.pass (l := []) HS.out⟩ ⟨Sep.start _⟩ HA1400).mono ?_
                                  rintro e_ w1401 ⟨rfl, hS⟩
                                  replace HS : Aside0 (Sep (fps []) w [] w1401) := ⟨HS.out.call hS⟩
                                  clear hS
                                  by_cases c1402 : t1399 = true
                                  · have H := if_yes c1402 H
                                    have c1402b0 : t1399 = true := c1402
                                    have c1402b1 : (!t1399) = false := by rw [c1402b0]; rfl
                                    try rw [c1402b1]
                                    clear c1402
                                    go_wp2_with fail
                                    go_ret
                                    rw [← some_eq H]
                                    exact ⟨(by first | rfl | (simp [IntKind.wrap_u32]; done)), HS.out⟩
                                  · have H := if_no c1402 H
                                    have c1402b0 : t1399 = false := by simpa using c1402
                                    have c1402b1 : (!t1399) = true := by rw [c1402b0]; rfl
                                    try rw [c1402b1]
                                    clear c1402
                                    go_wp2_with fail
                                    obtain ⟨t6391, HA6392, H⟩ := bind_some H
                                    refine (quitrentlaw13_begun.calls _ t6391 _ ⟨HGl0.out.pass (l := []) HS.out⟩ ⟨Sep.start _⟩ HA6392).mono ?_
                                    rintro e_ w6393 ⟨rfl, hS⟩
                                    replace HS : Aside0 (Sep (fps []) w [] w6393) := ⟨HS.out.call hS⟩
                                    clear hS
                                    go_wp2_with fail
                                    go_ret
                                    rw [← some_eq H]
                                    exact ⟨(by first | rfl | (simp [IntKind.wrap_u32]; done)), HS.out⟩
                          · have H := if_no c1048 H
                            have c1048b0 : (t1045 == 0) = false := beq_eq_false_iff_ne.mpr c1048
                            have c1048b1 : (t1045 != 0) = true := bne_iff_ne.mpr c1048
                            clear c1048
                            go_wp2_with fail
                            go_ret
                            rw [← some_eq H]
                            exact ⟨(by first | rfl | (simp [IntKind.wrap_u32]; done)), HS.out⟩
          · have H := if_no c90 H
            have c90b0 : (t67.2 == 0) = false := beq_eq_false_iff_ne.mpr c90
            have c90b1 : (t67.2 != 0) = true := bne_iff_ne.mpr c90
            clear c90
            go_wp2_with fail
            go_ret
            rw [← some_eq H]
            exact ⟨(by first | rfl | (simp [IntKind.wrap_u32]; done)), HS.out⟩
        · have H := if_no c89 H
          have c89b0 : (t67.1 == 0) = false := beq_eq_false_iff_ne.mpr c89
          have c89b1 : (t67.1 != 0) = true := bne_iff_ne.mpr c89
          clear c89
          go_wp2_with fail
          go_ret
          rw [← some_eq H]
          exact ⟨(by first | rfl | (simp [IntKind.wrap_u32]; done)), HS.out⟩
    · have H := if_no c83 H
      have c83b0 : (t80 == 0) = false := beq_eq_false_iff_ne.mpr c83
      have c83b1 : (t80 != 0) = true := bne_iff_ne.mpr c83
      clear c83
      go_wp2_with fail
      go_ret
      rw [← some_eq H]
      exact ⟨(by first | rfl | (simp [IntKind.wrap_u32]; done)), HS.out⟩
  · have H := if_no c76 H
    have c76b0 : (t73 == 0) = false := beq_eq_false_iff_ne.mpr c76
    have c76b1 : (t73 != 0) = true := bne_iff_ne.mpr c76
    clear c76
    go_wp2_with fail
    go_ret
    rw [← some_eq H]
    exact ⟨(by first | rfl | (simp [IntKind.wrap_u32]; done)), HS.out⟩
end Go.Proofs.YtobeonkddamnoaaGreatDoor.C

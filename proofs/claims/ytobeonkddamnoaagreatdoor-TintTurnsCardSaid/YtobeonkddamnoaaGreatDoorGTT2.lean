/- Each function of the group TT does what its plain function says, and changes nothing that was there; proved by walking its code. No condition. -/
import Derived.Test.YtobeonkddamnoaaGreatDoorQw
import Derived.Test.YtobeonkddamnoaaGreatDoorMTT
import Derived.Test.YtobeonkddamnoaaGreatDoorGTT0
import Derived.Test.YtobeonkddamnoaaGreatDoorGTT1
namespace Go.Proofs.YtobeonkddamnoaaGreatDoor.C
open Go.RowKit Go.Proofs.YtobeonkddamnoaaGreatDoorW.PrintWords Go.Proofs.YtobeonkddamnoaaGreatDoorW.PrintLast Go.Proofs.YtobeonkddamnoaaGreatDoor.Q Go.Proofs.YtobeonkddamnoaaGreatDoor.M
set_option linter.unusedVariables false
set_option linter.unusedSimpArgs false
set_option maxHeartbeats 30000000 in
set_option maxRecDepth 100000 in
theorem obj_Make.calls (k : Nat) (l1859 : List Int) (a1864 : Int) (a1865 : Int) (a1866 : Int) (a1867 : Int) (a1868 : Int) (a1869 : Int) (a1870 : Int) (g1855 : Nat) (g1857 : Nat) (A1860 : Option Addr) (m1861 : Nat) (n1862 : Nat) (r : Int × Int × Int × List Int) (w : World)  (HGl0 : Aside0 (Gl 0 #[.int .i64 0, .int .i64 0, .int .i64 0, .int .i64 0, .int .i64 0] (fps [b7 g1855 g1857 a1865 a1866 a1867 a1868, b6 g1857 A1860 m1861 n1862 a1864, r5 A1860 m1861 n1862 l1859]) w)) (HS : Aside0 (Sep (fps [b7 g1855 g1857 a1865 a1866 a1867 a1868, b6 g1857 A1860 m1861 n1862 a1864, r5 A1860 m1861 n1862 l1859]) w [b7 g1855 g1857 a1865 a1866 a1867 a1868, b6 g1857 A1860 m1861 n1862 a1864, r5 A1860 m1861 n1862 l1859] w)) (H : Aside0 (obj_Make.f k l1859 a1864 a1865 a1866 a1867 a1868 a1869 a1870 = some r)) :
    Calls Tryz.prog 11 #[.pointer (some ⟨g1855, 0, none⟩), .int .i64 a1869, .int .i64 a1870] w fun e w' => e = .returned (.tuple #[.int .i64 r.1, .int .i64 r.2.1]) ∧ Sep (fps [b7 g1855 g1857 a1865 a1866 a1867 a1868, b6 g1857 A1860 m1861 n1862 a1864, r5 A1860 m1861 n1862 l1859]) w [b7 g1855 g1857 a1865 a1866 a1867 a1868, b6 g1857 A1860 m1861 n1862 r.2.2.1, r5 A1860 m1861 n1862 r.2.2.2] w' := by
  generalize (fps [b7 g1855 g1857 a1865 a1866 a1867 a1868, b6 g1857 A1860 m1861 n1862 a1864, r5 A1860 m1861 n1862 l1859]) = FF at HS HGl0 ⊢
  obtain rfl := (row_len (HS.out.at2)).symm
  unfold obj_Make.f at H
  go_enter Tryz.func11, Tryz.ntmps11
  go_wp2_with fail
  obtain ⟨t2687, HA2688, H⟩ := bind_some H
  refine (ground_Ground_Conf.calls l1859 a1864 a1865 a1866 a1867 a1868 g1855 g1857 A1860 l1859.length n1862 t2687 _ ⟨HGl0.out.pass HS.out⟩ ⟨HS.out.begin⟩ HA2688).mono ?_
  rintro e_ w2689 ⟨rfl, hS⟩
  replace HS : Aside0 (Sep FF w [b7 g1855 g1857 a1865 a1866 a1867 a1868, b6 g1857 A1860 l1859.length n1862 a1864, r5 A1860 l1859.length n1862 l1859] w2689) := ⟨HS.out.call hS⟩
  clear hS
  have fl2690 : ∀ w, (Instr.field 29 (.agg #[.int .i64 t2687.1, .int .i64 t2687.2.1, .int .i64 t2687.2.2.1, .int .i64 t2687.2.2.2]) 1).run Tryz.prog w = .ok (.int .i64 t2687.2.1) w := fun _ => by kernel_rfl
  go_wp2_with fail
  clear fl2690
  obtain ⟨t2691, HA2692, H⟩ := bind_some H
  refine (shape_Blocks.calls _ t2687.2.1 a1869 a1870 t2691 _ ⟨HGl0.out.pass (l := []) HS.out⟩ ⟨Sep.start _⟩ HA2692).mono ?_
  rintro e_ w2693 ⟨rfl, hS⟩
  replace HS : Aside0 (Sep FF w [b7 g1855 g1857 a1865 a1866 a1867 a1868, b6 g1857 A1860 l1859.length n1862 a1864, r5 A1860 l1859.length n1862 l1859] w2693) := ⟨HS.out.call hS⟩
  clear hS
  by_cases c2694 : t2691.2 = 0
  · replace H := if_yes c2694 H
    have c2694b0 : (t2691.2 == 0) = true := beq_iff_eq.mpr c2694
    have c2694b1 : (t2691.2 != 0) = false := bne_eq_false_iff_eq.mpr c2694
    clear c2694
    go_wp2_with fail
    obtain ⟨t2695, HA2696, H⟩ := bind_some H
    refine (pool_Len.calls l1859 a1864 a1865 a1866 a1867 a1868 g1855 g1857 A1860 l1859.length n1862 t2695 _ ⟨HGl0.out.pass HS.out⟩ ⟨HS.out.begin⟩ HA2696).mono ?_
    rintro e_ w2697 ⟨rfl, hS⟩
    replace HS : Aside0 (Sep FF w [b7 g1855 g1857 a1865 a1866 a1867 a1868, b6 g1857 A1860 l1859.length n1862 t2695.2, r5 A1860 l1859.length n1862 l1859] w2697) := ⟨HS.out.call hS⟩
    clear hS
    by_cases c2698 : t2695.1 < t2691.1
    · replace H := if_yes c2698 H
      have c2698b0 : decide (t2695.1 < t2691.1) = true := decide_eq_true c2698
      clear c2698
      go_wp2_with fail
      go_ret2
      rw [← some_eq H]
      exact ⟨(by first | rfl | (simp [IntKind.wrap_u32]; done)), HS.out⟩
    · replace H := if_no c2698 H
      have c2698b0 : decide (t2695.1 < t2691.1) = false := decide_eq_false c2698
      clear c2698
      go_wp2_with fail
      obtain ⟨t2699, HA2700, H⟩ := bind_some H
      refine (pool_Take.calls _ l1859 t2695.2 a1865 a1866 a1867 a1868 g1855 g1857 A1860 l1859.length n1862 t2699 _ ⟨HGl0.out.pass HS.out⟩ ⟨HS.out.begin⟩ HA2700).mono ?_
      rintro e_ w2701 ⟨rfl, hS⟩
      replace HS : Aside0 (Sep FF w [b7 g1855 g1857 a1865 a1866 a1867 a1868, b6 g1857 A1860 l1859.length n1862 t2699.2.2.1, r5 A1860 l1859.length n1862 t2699.2.2.2] w2701) := ⟨HS.out.call hS⟩
      clear hS
      by_cases c2702 : t2691.1 > 1
      · replace H := if_yes c2702 H
        have c2702b0 : decide (1 < t2691.1) = true := decide_eq_true c2702
        clear c2702
        go_wp2_with fail
        obtain ⟨t2703, HA2704, H⟩ := bind_some H
        refine (obj_mark.calls _ t2699.2.2.2 t2699.2.2.1 a1865 a1866 a1867 a1868 t2699.1 2 0 0 0 0 0 0 g1855 g1857 A1860 l1859.length n1862 t2703 _ ⟨HGl0.out.pass HS.out⟩ ⟨HS.out.begin⟩ HA2704).mono ?_
        rintro e_ w2705 ⟨rfl, hS⟩
        replace HS : Aside0 (Sep FF w [b7 g1855 g1857 a1865 a1866 a1867 a1868, b6 g1857 A1860 l1859.length n1862 t2703.1, r5 A1860 l1859.length n1862 t2703.2] w2705) := ⟨HS.out.call hS⟩
        clear hS
        go_wp2_with fail
        obtain ⟨t2706, HA2707, H⟩ := bind_some H
        refine (ground_Ground_SetWord.calls t2703.2 t2703.1 a1865 a1866 a1867 a1868 t2699.1 1 ((a1869) % 4294967296) g1855 g1857 A1860 l1859.length n1862 t2706 _ ⟨HGl0.out.pass HS.out⟩ ⟨HS.out.begin⟩ HA2707).mono ?_
        rintro e_ w2708 ⟨rfl, hS⟩
        replace HS : Aside0 (Sep FF w [b7 g1855 g1857 a1865 a1866 a1867 a1868, b6 g1857 A1860 l1859.length n1862 t2706.2.1, r5 A1860 l1859.length n1862 t2706.2.2] w2708) := ⟨HS.out.call hS⟩
        clear hS
        go_wp2_with fail
        obtain ⟨t2709, HA2710, H⟩ := bind_some H
        refine (ground_Ground_SetWord.calls t2706.2.2 t2706.2.1 a1865 a1866 a1867 a1868 t2699.1 2 ((a1870) % 4294967296) g1855 g1857 A1860 l1859.length n1862 t2709 _ ⟨HGl0.out.pass HS.out⟩ ⟨HS.out.begin⟩ HA2710).mono ?_
        rintro e_ w2711 ⟨rfl, hS⟩
        replace HS : Aside0 (Sep FF w [b7 g1855 g1857 a1865 a1866 a1867 a1868, b6 g1857 A1860 l1859.length n1862 t2709.2.1, r5 A1860 l1859.length n1862 t2709.2.2] w2711) := ⟨HS.out.call hS⟩
        clear hS
        go_wp2_with fail
        obtain ⟨o2728, AL2729, H⟩ := bind_some H
        go_loopg [56] k (fun kq v56 wc => ∃ (x2732 : Int) (x2733 : List Int) (x2734 : Int), v56 = .int .i64 x2732 ∧ Aside0 (obj_Make.lo0 kq a1865 a1866 a1867 a1868 t2691 t2699 x2732 x2733 x2734 = some o2728) ∧ Aside0 (Sep FF w [b7 g1855 g1857 a1865 a1866 a1867 a1868, b6 g1857 A1860 l1859.length n1862 x2734, r5 A1860 l1859.length n1862 x2733] wc))
        case atStart => exact ⟨(0), (t2709.2.2), (t2709.2.1), (by first | rfl | (simp [IntKind.wrap_u32]; done)), AL2729, ⟨HS.out⟩⟩
        case round =>
          clear AL2729 HS
          obtain ⟨x2732, x2733, x2734, rfl, AL2729, HS⟩ := hrel
          obtain ⟨w2730, rfl⟩ : ∃ x : World, x = wr := ⟨_, rfl⟩
          cases gk with
          | zero => exact absurd AL2729.out (by simp [obj_Make.lo0])
          | succ k2731 =>
            have AL0 := AL2729.out
            rw [obj_Make.lo0] at AL0
            clear AL2729
            have AL2729 := Aside0.mk AL0
            clear AL0
            by_cases c2735 : x2732 < (wrap64 (t2691.1 - 1))
            · replace AL2729 := if_yes c2735 AL2729
              have c2735b0 : decide (x2732 < (wrap64 (t2691.1 - 1))) = true := decide_eq_true c2735
              clear c2735
              go_wp2_with fail
              obtain ⟨t2719, HA2736, AL2729⟩ := bind_some AL2729
              refine (pool_Take.calls _ x2733 x2734 a1865 a1866 a1867 a1868 g1855 g1857 A1860 l1859.length n1862 t2719 _ ⟨HGl0.out.pass HS.out⟩ ⟨HS.out.begin⟩ HA2736).mono ?_
              rintro e_ w2737 ⟨rfl, hS⟩
              replace HS : Aside0 (Sep FF w [b7 g1855 g1857 a1865 a1866 a1867 a1868, b6 g1857 A1860 l1859.length n1862 t2719.2.2.1, r5 A1860 l1859.length n1862 t2719.2.2.2] w2737) := ⟨HS.out.call hS⟩
              clear hS
              go_wp2_with fail
              obtain ⟨t2722, HA2738, AL2729⟩ := bind_some AL2729
              refine (obj_mark.calls _ t2719.2.2.2 t2719.2.2.1 a1865 a1866 a1867 a1868 t2719.1 3 0 0 0 0 0 t2699.1 g1855 g1857 A1860 l1859.length n1862 t2722 _ ⟨HGl0.out.pass HS.out⟩ ⟨HS.out.begin⟩ HA2738).mono ?_
              rintro e_ w2739 ⟨rfl, hS⟩
              replace HS : Aside0 (Sep FF w [b7 g1855 g1857 a1865 a1866 a1867 a1868, b6 g1857 A1860 l1859.length n1862 t2722.1, r5 A1860 l1859.length n1862 t2722.2] w2739) := ⟨HS.out.call hS⟩
              clear hS
              go_wp2_with fail
              obtain ⟨t2725, HA2740, AL2729⟩ := bind_some AL2729
              refine (ground_Ground_SetWord.calls t2722.2 t2722.1 a1865 a1866 a1867 a1868 t2699.1 (wrap64 (8 + x2732)) ((wrap64 (t2719.1 + 1)) % 4294967296) g1855 g1857 A1860 l1859.length n1862 t2725 _ ⟨HGl0.out.pass HS.out⟩ ⟨HS.out.begin⟩ HA2740).mono ?_
              rintro e_ w2741 ⟨rfl, hS⟩
              replace HS : Aside0 (Sep FF w [b7 g1855 g1857 a1865 a1866 a1867 a1868, b6 g1857 A1860 l1859.length n1862 t2725.2.1, r5 A1860 l1859.length n1862 t2725.2.2] w2741) := ⟨HS.out.call hS⟩
              clear hS
              go_wp2_with fail
              go_roundg k2731
              case measure => exact Nat.lt_succ_self _
              case rel => exact ⟨(wrap64 (x2732 + 1)), (t2725.2.2), (t2725.2.1), (by first | rfl | (simp [IntKind.wrap_u32]; done)), Aside0.mk AL2729.out, ⟨HS.out⟩⟩
            · replace AL2729 := if_no c2735 AL2729
              have c2735b0 : decide (x2732 < (wrap64 (t2691.1 - 1))) = false := decide_eq_false c2735
              clear c2735
              have ho := some_eq AL2729
              subst ho
              clear AL2729
              go_wp2_with fail
              go_ret2
              rw [← some_eq H]
              exact ⟨(by first | rfl | (simp [IntKind.wrap_u32]; done)), HS.out⟩
      · replace H := if_no c2702 H
        have c2702b0 : decide (1 < t2691.1) = false := decide_eq_false c2702
        clear c2702
        go_wp2_with fail
        obtain ⟨t2703, HA2743, H⟩ := bind_some H
        refine (obj_mark.calls _ t2699.2.2.2 t2699.2.2.1 a1865 a1866 a1867 a1868 t2699.1 1 0 0 0 0 0 0 g1855 g1857 A1860 l1859.length n1862 t2703 _ ⟨HGl0.out.pass HS.out⟩ ⟨HS.out.begin⟩ HA2743).mono ?_
        rintro e_ w2744 ⟨rfl, hS⟩
        replace HS : Aside0 (Sep FF w [b7 g1855 g1857 a1865 a1866 a1867 a1868, b6 g1857 A1860 l1859.length n1862 t2703.1, r5 A1860 l1859.length n1862 t2703.2] w2744) := ⟨HS.out.call hS⟩
        clear hS
        go_wp2_with fail
        obtain ⟨t2706, HA2745, H⟩ := bind_some H
        refine (ground_Ground_SetWord.calls t2703.2 t2703.1 a1865 a1866 a1867 a1868 t2699.1 1 ((a1869) % 4294967296) g1855 g1857 A1860 l1859.length n1862 t2706 _ ⟨HGl0.out.pass HS.out⟩ ⟨HS.out.begin⟩ HA2745).mono ?_
        rintro e_ w2746 ⟨rfl, hS⟩
        replace HS : Aside0 (Sep FF w [b7 g1855 g1857 a1865 a1866 a1867 a1868, b6 g1857 A1860 l1859.length n1862 t2706.2.1, r5 A1860 l1859.length n1862 t2706.2.2] w2746) := ⟨HS.out.call hS⟩
        clear hS
        go_wp2_with fail
        obtain ⟨t2709, HA2747, H⟩ := bind_some H
        refine (ground_Ground_SetWord.calls t2706.2.2 t2706.2.1 a1865 a1866 a1867 a1868 t2699.1 2 ((a1870) % 4294967296) g1855 g1857 A1860 l1859.length n1862 t2709 _ ⟨HGl0.out.pass HS.out⟩ ⟨HS.out.begin⟩ HA2747).mono ?_
        rintro e_ w2748 ⟨rfl, hS⟩
        replace HS : Aside0 (Sep FF w [b7 g1855 g1857 a1865 a1866 a1867 a1868, b6 g1857 A1860 l1859.length n1862 t2709.2.1, r5 A1860 l1859.length n1862 t2709.2.2] w2748) := ⟨HS.out.call hS⟩
        clear hS
        go_wp2_with fail
        obtain ⟨o2762, AL2763, H⟩ := bind_some H
        go_loopg [56] k (fun kq v56 wc => ∃ (x2766 : Int) (x2767 : List Int) (x2768 : Int), v56 = .int .i64 x2766 ∧ Aside0 (obj_Make.lo1 kq a1865 a1866 a1867 a1868 t2691 t2699 x2766 x2767 x2768 = some o2762) ∧ Aside0 (Sep FF w [b7 g1855 g1857 a1865 a1866 a1867 a1868, b6 g1857 A1860 l1859.length n1862 x2768, r5 A1860 l1859.length n1862 x2767] wc))
        case atStart => exact ⟨(0), (t2709.2.2), (t2709.2.1), (by first | rfl | (simp [IntKind.wrap_u32]; done)), AL2763, ⟨HS.out⟩⟩
        case round =>
          clear AL2763 HS
          obtain ⟨x2766, x2767, x2768, rfl, AL2763, HS⟩ := hrel
          obtain ⟨w2764, rfl⟩ : ∃ x : World, x = wr := ⟨_, rfl⟩
          cases gk with
          | zero => exact absurd AL2763.out (by simp [obj_Make.lo1])
          | succ k2765 =>
            have AL0 := AL2763.out
            rw [obj_Make.lo1] at AL0
            clear AL2763
            have AL2763 := Aside0.mk AL0
            clear AL0
            by_cases c2769 : x2766 < (wrap64 (t2691.1 - 1))
            · replace AL2763 := if_yes c2769 AL2763
              have c2769b0 : decide (x2766 < (wrap64 (t2691.1 - 1))) = true := decide_eq_true c2769
              clear c2769
              go_wp2_with fail
              obtain ⟨t2719, HA2770, AL2763⟩ := bind_some AL2763
              refine (pool_Take.calls _ x2767 x2768 a1865 a1866 a1867 a1868 g1855 g1857 A1860 l1859.length n1862 t2719 _ ⟨HGl0.out.pass HS.out⟩ ⟨HS.out.begin⟩ HA2770).mono ?_
              rintro e_ w2771 ⟨rfl, hS⟩
              replace HS : Aside0 (Sep FF w [b7 g1855 g1857 a1865 a1866 a1867 a1868, b6 g1857 A1860 l1859.length n1862 t2719.2.2.1, r5 A1860 l1859.length n1862 t2719.2.2.2] w2771) := ⟨HS.out.call hS⟩
              clear hS
              go_wp2_with fail
              obtain ⟨t2722, HA2772, AL2763⟩ := bind_some AL2763
              refine (obj_mark.calls _ t2719.2.2.2 t2719.2.2.1 a1865 a1866 a1867 a1868 t2719.1 3 0 0 0 0 0 t2699.1 g1855 g1857 A1860 l1859.length n1862 t2722 _ ⟨HGl0.out.pass HS.out⟩ ⟨HS.out.begin⟩ HA2772).mono ?_
              rintro e_ w2773 ⟨rfl, hS⟩
              replace HS : Aside0 (Sep FF w [b7 g1855 g1857 a1865 a1866 a1867 a1868, b6 g1857 A1860 l1859.length n1862 t2722.1, r5 A1860 l1859.length n1862 t2722.2] w2773) := ⟨HS.out.call hS⟩
              clear hS
              go_wp2_with fail
              obtain ⟨t2725, HA2774, AL2763⟩ := bind_some AL2763
              refine (ground_Ground_SetWord.calls t2722.2 t2722.1 a1865 a1866 a1867 a1868 t2699.1 (wrap64 (8 + x2766)) ((wrap64 (t2719.1 + 1)) % 4294967296) g1855 g1857 A1860 l1859.length n1862 t2725 _ ⟨HGl0.out.pass HS.out⟩ ⟨HS.out.begin⟩ HA2774).mono ?_
              rintro e_ w2775 ⟨rfl, hS⟩
              replace HS : Aside0 (Sep FF w [b7 g1855 g1857 a1865 a1866 a1867 a1868, b6 g1857 A1860 l1859.length n1862 t2725.2.1, r5 A1860 l1859.length n1862 t2725.2.2] w2775) := ⟨HS.out.call hS⟩
              clear hS
              go_wp2_with fail
              go_roundg k2765
              case measure => exact Nat.lt_succ_self _
              case rel => exact ⟨(wrap64 (x2766 + 1)), (t2725.2.2), (t2725.2.1), (by first | rfl | (simp [IntKind.wrap_u32]; done)), Aside0.mk AL2763.out, ⟨HS.out⟩⟩
            · replace AL2763 := if_no c2769 AL2763
              have c2769b0 : decide (x2766 < (wrap64 (t2691.1 - 1))) = false := decide_eq_false c2769
              clear c2769
              have ho := some_eq AL2763
              subst ho
              clear AL2763
              go_wp2_with fail
              go_ret2
              rw [← some_eq H]
              exact ⟨(by first | rfl | (simp [IntKind.wrap_u32]; done)), HS.out⟩
  · replace H := if_no c2694 H
    have c2694b0 : (t2691.2 == 0) = false := beq_eq_false_iff_ne.mpr c2694
    have c2694b1 : (t2691.2 != 0) = true := bne_iff_ne.mpr c2694
    clear c2694
    go_wp2_with fail
    go_ret2
    rw [← some_eq H]
    exact ⟨(by first | rfl | (simp [IntKind.wrap_u32]; done)), HS.out⟩

set_option maxHeartbeats 30000000 in
set_option maxRecDepth 100000 in
theorem pack_Get.calls (a2911 : Int) (a2912 : Int) (a2913 : Int) (r : Int) (w : World)  (HGl0 : Aside0 (Gl 0 #[.int .i64 0, .int .i64 0, .int .i64 0, .int .i64 0, .int .i64 0] (fps []) w)) (HS : Aside0 (Sep (fps []) w [] w)) (H : Aside0 (pack_Get.f a2911 a2912 a2913 = some r)) :
    Calls Tryz.prog 157 #[.int .u32 a2911, .int .i64 a2912, .int .i64 a2913] w fun e w' => e = .returned (.int .u32 r) ∧ Sep (fps []) w [] w' := by
  unfold pack_Get.f at H
  go_enter Tryz.func157, Tryz.ntmps157
  go_wp2_with fail
  obtain ⟨t2914, HA2915, H⟩ := bind_some H
  refine (pack_isPiece.calls a2912 a2913 t2914 _ ⟨HGl0.out.pass (l := []) HS.out⟩ ⟨Sep.start _⟩ HA2915).mono ?_
  rintro e_ w2916 ⟨rfl, hS⟩
  replace HS : Aside0 (Sep (fps []) w [] w2916) := ⟨HS.out.call hS⟩
  clear hS
  by_cases c2917 : t2914 = true
  · replace H := if_yes c2917 H
    have c2917b0 : t2914 = true := c2917
    have c2917b1 : (!t2914) = false := by rw [c2917b0]; rfl
    try rw [c2917b1]
    clear c2917
    go_wp2_with fail
    obtain ⟨t2918, HA2919, H⟩ := bind_some H
    refine (pack_mask.calls a2912 a2913 t2918 _ ⟨HGl0.out.pass (l := []) HS.out⟩ ⟨Sep.start _⟩ HA2919).mono ?_
    rintro e_ w2920 ⟨rfl, hS⟩
    replace HS : Aside0 (Sep (fps []) w [] w2920) := ⟨HS.out.call hS⟩
    clear hS
    by_cases c2921 : 0 ≤ (IntKind.u64.wrap (a2912))
    · replace H := if_yes c2921 H
      have c2921b0 : decide (0 ≤ (IntKind.u64.wrap (a2912))) = true := decide_eq_true c2921
      skip
      go_wp2_with fail
      clear c2921
      go_ret
      rw [← some_eq H]
      exact ⟨(by first | rfl | (simp [IntKind.wrap_u32]; done)), HS.out⟩
    · replace H := if_no c2921 H
      have c2921b0 : decide (0 ≤ (IntKind.u64.wrap (a2912))) = false := decide_eq_false c2921
      exact (none_no H).elim
  · replace H := if_no c2917 H
    have c2917b0 : t2914 = false := by simpa using c2917
    have c2917b1 : (!t2914) = true := by rw [c2917b0]; rfl
    try rw [c2917b1]
    clear c2917
    go_wp2_with fail
    go_ret
    rw [← some_eq H]
    exact ⟨(by first | rfl | (simp [IntKind.wrap_u32]; done)), HS.out⟩

set_option maxHeartbeats 30000000 in
set_option maxRecDepth 100000 in
theorem tag_Unpack_1.calls (a2905 : Int) (a2906 : Int) (a2909 : Int) (g2908 : Nat) (r : Int) (w : World)  (HGl0 : Aside0 (Gl 0 #[.int .i64 0, .int .i64 0, .int .i64 0, .int .i64 0, .int .i64 0] (fps [b18 g2908 a2909]) w)) (HS : Aside0 (Sep (fps [b18 g2908 a2909]) w [b18 g2908 a2909] w)) (H : Aside0 (tag_Unpack_1.f a2905 a2906 a2909 = some r)) :
    Calls Tryz.prog 156 #[.int .i64 a2905, .int .i64 a2906, .pointer (some ⟨g2908, 0, none⟩)] w fun e w' => e = .returned (.int .i64 r) ∧ Sep (fps [b18 g2908 a2909]) w [b18 g2908 a2909] w' := by
  generalize (fps [b18 g2908 a2909]) = FF at HS HGl0 ⊢
  unfold tag_Unpack_1.f at H
  go_enter Tryz.func156, Tryz.ntmps156
  have hc2910 : w.cell? ⟨g2908, 0, none⟩ = some (.int .u32 a2909) := blk_cellv (HS.out.at0) 0 rfl
  go_wp2_with fail
  clear hc2910
  obtain ⟨t2922, HA2923, H⟩ := bind_some H
  refine (pack_Get.calls a2909 a2905 a2906 t2922 _ ⟨HGl0.out.pass (l := []) HS.out⟩ ⟨Sep.start _⟩ HA2923).mono ?_
  rintro e_ w2924 ⟨rfl, hS⟩
  replace HS : Aside0 (Sep FF w [b18 g2908 a2909] w2924) := ⟨HS.out.call hS⟩
  clear hS
  go_wp2_with fail
  go_ret
  rw [← some_eq H]
  exact ⟨(by first | rfl | (simp [IntKind.wrap_u32]; done)), HS.out⟩

set_option maxHeartbeats 30000000 in
set_option maxRecDepth 100000 in
theorem tag_Unpack.calls (a2898 : Int) (r : Int × Int × Int × Int × Int × Int × Int) (w : World)  (HGl0 : Aside0 (Gl 0 #[.int .i64 0, .int .i64 0, .int .i64 0, .int .i64 0, .int .i64 0] (fps []) w)) (HS : Aside0 (Sep (fps []) w [] w)) (H : Aside0 (tag_Unpack.f a2898 = some r)) :
    Calls Tryz.prog 109 #[.int .u32 a2898] w fun e w' => e = .returned (.agg #[.int .i64 r.1, .int .i64 r.2.1, .int .i64 r.2.2.1, .int .i64 r.2.2.2.1, .int .i64 r.2.2.2.2.1, .int .i64 r.2.2.2.2.2.1, .int .i64 r.2.2.2.2.2.2]) ∧ Sep (fps []) w [] w' := by
  unfold tag_Unpack.f at H
  go_enter Tryz.func109, Tryz.ntmps109
  go_wp2_with (first | ((with_reducible refine gate_dst (N := 1) rfl ?_); refine box_on ?hg (N := 1) ?hd (cs := #[.int .u32 a2898]) (t := 57) ?hr ?_; (case hd => rfl); (case hg => rfl); (case hr => first | (go_simp; done) | (go_simp; rfl)); intro g2899 hg w2900 hbox hb; replace HS : Aside0 (Sep (fps []) w [b18 g2899 a2898] w2900) := ⟨HS.out.box hg hbox hb⟩; clear hg hbox hb) | ((with_reducible refine gate_dst (N := 2) rfl ?_); refine box_on ?hg (N := 2) ?hd (cs := #[.int .i64 0, .int .i64 0, .int .i64 0, .int .i64 0, .int .i64 0, .int .i64 0, .int .i64 0]) (t := 79) ?hr ?_; (case hd => rfl); (case hg => rfl); (case hr => first | (go_simp; done) | (go_simp; rfl)); intro g2902 hg w2903 hbox hb; replace HS : Aside0 (Sep (fps []) w [b18 g2899 a2898, b16 g2902 0 0 0 0 0 0 0] w2903) := ⟨HS.out.box hg hbox hb⟩; clear hg hbox hb))
  obtain ⟨t2925, HA2926, H⟩ := bind_some H
  refine (tag_Unpack_1.calls 0 2 a2898 g2899 t2925 _ ⟨HGl0.out.pass HS.out⟩ ⟨HS.out.begin⟩ HA2926).mono ?_
  rintro e_ w2927 ⟨rfl, hS⟩
  replace HS : Aside0 (Sep (fps []) w [b18 g2899 a2898, b16 g2902 0 0 0 0 0 0 0] w2927) := ⟨HS.out.call hS⟩
  clear hS
  go_wp2_with fail
  obtain ⟨t2928, HA2929, H⟩ := bind_some H
  refine (tag_Unpack_1.calls 2 1 a2898 g2899 t2928 _ ⟨HGl0.out.pass HS.out⟩ ⟨HS.out.begin⟩ HA2929).mono ?_
  rintro e_ w2930 ⟨rfl, hS⟩
  replace HS : Aside0 (Sep (fps []) w [b18 g2899 a2898, b16 g2902 0 0 0 0 0 0 0] w2930) := ⟨HS.out.call hS⟩
  clear hS
  go_wp2_with fail
  obtain ⟨t2931, HA2932, H⟩ := bind_some H
  refine (tag_Unpack_1.calls 3 1 a2898 g2899 t2931 _ ⟨HGl0.out.pass HS.out⟩ ⟨HS.out.begin⟩ HA2932).mono ?_
  rintro e_ w2933 ⟨rfl, hS⟩
  replace HS : Aside0 (Sep (fps []) w [b18 g2899 a2898, b16 g2902 0 0 0 0 0 0 0] w2933) := ⟨HS.out.call hS⟩
  clear hS
  go_wp2_with fail
  obtain ⟨t2934, HA2935, H⟩ := bind_some H
  refine (tag_Unpack_1.calls 4 1 a2898 g2899 t2934 _ ⟨HGl0.out.pass HS.out⟩ ⟨HS.out.begin⟩ HA2935).mono ?_
  rintro e_ w2936 ⟨rfl, hS⟩
  replace HS : Aside0 (Sep (fps []) w [b18 g2899 a2898, b16 g2902 0 0 0 0 0 0 0] w2936) := ⟨HS.out.call hS⟩
  clear hS
  go_wp2_with fail
  obtain ⟨t2937, HA2938, H⟩ := bind_some H
  refine (tag_Unpack_1.calls 5 1 a2898 g2899 t2937 _ ⟨HGl0.out.pass HS.out⟩ ⟨HS.out.begin⟩ HA2938).mono ?_
  rintro e_ w2939 ⟨rfl, hS⟩
  replace HS : Aside0 (Sep (fps []) w [b18 g2899 a2898, b16 g2902 0 0 0 0 0 0 0] w2939) := ⟨HS.out.call hS⟩
  clear hS
  go_wp2_with fail
  obtain ⟨t2940, HA2941, H⟩ := bind_some H
  refine (tag_Unpack_1.calls 6 1 a2898 g2899 t2940 _ ⟨HGl0.out.pass HS.out⟩ ⟨HS.out.begin⟩ HA2941).mono ?_
  rintro e_ w2942 ⟨rfl, hS⟩
  replace HS : Aside0 (Sep (fps []) w [b18 g2899 a2898, b16 g2902 0 0 0 0 0 0 0] w2942) := ⟨HS.out.call hS⟩
  clear hS
  go_wp2_with fail
  obtain ⟨t2943, HA2944, H⟩ := bind_some H
  refine (tag_Unpack_1.calls 8 24 a2898 g2899 t2943 _ ⟨HGl0.out.pass HS.out⟩ ⟨HS.out.begin⟩ HA2944).mono ?_
  rintro e_ w2945 ⟨rfl, hS⟩
  replace HS : Aside0 (Sep (fps []) w [b18 g2899 a2898, b16 g2902 0 0 0 0 0 0 0] w2945) := ⟨HS.out.call hS⟩
  clear hS
  have hc2946 : w2945.cell? ⟨g2902, 0, none⟩ = some (.int .i64 0) := blk_cellv (HS.out.at1) 0 rfl
  have hz2947 : w2945.frozen? ⟨g2902, 0, none⟩ = false := blk_fz (HS.out.at1) 0
  have hc2948 : w2945.cell? ⟨g2902, 1, none⟩ = some (.int .i64 0) := blk_cellv (HS.out.at1) 1 rfl
  have hz2949 : w2945.frozen? ⟨g2902, 1, none⟩ = false := blk_fz (HS.out.at1) 1
  have hc2950 : w2945.cell? ⟨g2902, 2, none⟩ = some (.int .i64 0) := blk_cellv (HS.out.at1) 2 rfl
  have hz2951 : w2945.frozen? ⟨g2902, 2, none⟩ = false := blk_fz (HS.out.at1) 2
  have hc2952 : w2945.cell? ⟨g2902, 3, none⟩ = some (.int .i64 0) := blk_cellv (HS.out.at1) 3 rfl
  have hz2953 : w2945.frozen? ⟨g2902, 3, none⟩ = false := blk_fz (HS.out.at1) 3
  have hc2954 : w2945.cell? ⟨g2902, 4, none⟩ = some (.int .i64 0) := blk_cellv (HS.out.at1) 4 rfl
  have hz2955 : w2945.frozen? ⟨g2902, 4, none⟩ = false := blk_fz (HS.out.at1) 4
  have hc2956 : w2945.cell? ⟨g2902, 5, none⟩ = some (.int .i64 0) := blk_cellv (HS.out.at1) 5 rfl
  have hz2957 : w2945.frozen? ⟨g2902, 5, none⟩ = false := blk_fz (HS.out.at1) 5
  have hc2958 : w2945.cell? ⟨g2902, 6, none⟩ = some (.int .i64 0) := blk_cellv (HS.out.at1) 6 rfl
  have hz2959 : w2945.frozen? ⟨g2902, 6, none⟩ = false := blk_fz (HS.out.at1) 6
  go_wp2_with (first | ((with_reducible refine gate_store (t := 79) (p := 2) rfl ?_); refine store_event (w1 := (World.setCell (World.setCell (World.setCell (World.setCell (World.setCell (World.setCell (World.setCell w2945 ⟨g2902, 0, none⟩ (.int .i64 t2925)) ⟨g2902, 1, none⟩ (.int .i64 t2928)) ⟨g2902, 2, none⟩ (.int .i64 t2931)) ⟨g2902, 3, none⟩ (.int .i64 t2934)) ⟨g2902, 4, none⟩ (.int .i64 t2937)) ⟨g2902, 5, none⟩ (.int .i64 t2940)) ⟨g2902, 6, none⟩ (.int .i64 t2943))) rfl (t := 79) (p := 2) rfl rfl ?hr ?_; (case hr => first | (go_simp; done) | (go_simp; rfl)); intro w2960 hst; clear hc2946 hz2947 hc2948 hz2949 hc2950 hz2951 hc2952 hz2953 hc2954 hz2955 hc2956 hz2957 hc2958 hz2959; replace HS : Aside0 (Sep (fps []) w [b18 g2899 a2898, b16 g2902 t2925 t2928 t2931 t2934 t2937 t2940 t2943] w2960) := ⟨by rw [hst]; exact HS.out.setAll (l1 := [b18 g2899 a2898]) (l2 := []) [.int .i64 t2925, .int .i64 t2928, .int .i64 t2931, .int .i64 t2934, .int .i64 t2937, .int .i64 t2940, .int .i64 t2943] rfl⟩; clear hst; replace HS : Aside0 (Sep (fps []) w [b16 g2902 t2925 t2928 t2931 t2934 t2937 t2940 t2943] w2960) := ⟨HS.out.sub (.cons _ (.cons_cons _ .slnil))⟩))
  have hc2961 : w2960.cell? ⟨g2902, 0, none⟩ = some (.int .i64 t2925) := blk_cellv (HS.out.at0) 0 rfl
  have hc2962 : w2960.cell? ⟨g2902, 1, none⟩ = some (.int .i64 t2928) := blk_cellv (HS.out.at0) 1 rfl
  have hc2963 : w2960.cell? ⟨g2902, 2, none⟩ = some (.int .i64 t2931) := blk_cellv (HS.out.at0) 2 rfl
  have hc2964 : w2960.cell? ⟨g2902, 3, none⟩ = some (.int .i64 t2934) := blk_cellv (HS.out.at0) 3 rfl
  have hc2965 : w2960.cell? ⟨g2902, 4, none⟩ = some (.int .i64 t2937) := blk_cellv (HS.out.at0) 4 rfl
  have hc2966 : w2960.cell? ⟨g2902, 5, none⟩ = some (.int .i64 t2940) := blk_cellv (HS.out.at0) 5 rfl
  have hc2967 : w2960.cell? ⟨g2902, 6, none⟩ = some (.int .i64 t2943) := blk_cellv (HS.out.at0) 6 rfl
  refine bodyPost_ret (v := .agg #[.int .i64 t2925, .int .i64 t2928, .int .i64 t2931, .int .i64 t2934, .int .i64 t2937, .int .i64 t2940, .int .i64 t2943]) (by simp [results, Tryz.results109, go_sem, hc2961, hc2962, hc2963, hc2964, hc2965, hc2966, hc2967]) rfl ?_
  rw [← some_eq H]
  exact ⟨(by first | rfl | (simp [IntKind.wrap_u32]; done)), HS.out.sub (.cons _ .slnil)⟩

set_option maxHeartbeats 30000000 in
set_option maxRecDepth 100000 in
theorem tint_of.calls (l2831 : List Int) (a2836 : Int) (a2837 : Int) (a2838 : Int) (a2839 : Int) (a2840 : Int) (a2841 : Int) (g2827 : Nat) (g2829 : Nat) (A2832 : Option Addr) (m2833 : Nat) (n2834 : Nat) (r : Int × Int × Int × Int × Int × Int × Int × Bool × Int) (w : World)  (HGl0 : Aside0 (Gl 0 #[.int .i64 0, .int .i64 0, .int .i64 0, .int .i64 0, .int .i64 0] (fps [b7 g2827 g2829 a2837 a2838 a2839 a2840, b6 g2829 A2832 m2833 n2834 a2836, r5 A2832 m2833 n2834 l2831]) w)) (HS : Aside0 (Sep (fps [b7 g2827 g2829 a2837 a2838 a2839 a2840, b6 g2829 A2832 m2833 n2834 a2836, r5 A2832 m2833 n2834 l2831]) w [b7 g2827 g2829 a2837 a2838 a2839 a2840, b6 g2829 A2832 m2833 n2834 a2836, r5 A2832 m2833 n2834 l2831] w)) (H : Aside0 (tint_of.f l2831 a2836 a2837 a2838 a2839 a2840 a2841 = some r)) :
    Calls Tryz.prog 53 #[.pointer (some ⟨g2827, 0, none⟩), .int .i64 a2841] w fun e w' => e = .returned (.tuple #[.agg #[.int .i64 r.1, .int .i64 r.2.1, .int .i64 r.2.2.1, .int .i64 r.2.2.2.1, .int .i64 r.2.2.2.2.1, .int .i64 r.2.2.2.2.2.1, .int .i64 r.2.2.2.2.2.2.1], .bool r.2.2.2.2.2.2.2.1]) ∧ Sep (fps [b7 g2827 g2829 a2837 a2838 a2839 a2840, b6 g2829 A2832 m2833 n2834 a2836, r5 A2832 m2833 n2834 l2831]) w [b7 g2827 g2829 a2837 a2838 a2839 a2840, b6 g2829 A2832 m2833 n2834 r.2.2.2.2.2.2.2.2, r5 A2832 m2833 n2834 l2831] w' := by
  generalize (fps [b7 g2827 g2829 a2837 a2838 a2839 a2840, b6 g2829 A2832 m2833 n2834 a2836, r5 A2832 m2833 n2834 l2831]) = FF at HS HGl0 ⊢
  obtain rfl := (row_len (HS.out.at2)).symm
  unfold tint_of.f at H
  go_enter Tryz.func53, Tryz.ntmps53
  by_cases c3017 : a2841 < 1
  · replace H := if_yes c3017 H
    have c3017b0 : decide (a2841 < 1) = true := decide_eq_true c3017
    clear c3017
    go_wp2_with (first | ((with_reducible refine gate_dst (N := 4) rfl ?_); refine box_on ?hg (N := 4) ?hd (cs := #[.int .i64 0, .int .i64 0, .int .i64 0, .int .i64 0, .int .i64 0, .int .i64 0, .int .i64 0]) (t := 79) ?hr ?_; (case hd => rfl); (case hg => rfl); (case hr => first | (go_simp; done) | (go_simp; rfl)); intro g3014 hg w3015 hbox hb; replace HS : Aside0 (Sep FF w [b7 g2827 g2829 a2837 a2838 a2839 a2840, b6 g2829 A2832 l2831.length n2834 a2836, r5 A2832 l2831.length n2834 l2831, b16 g3014 0 0 0 0 0 0 0] w3015) := ⟨HS.out.box hg hbox hb⟩; clear hg hbox hb; have hc3018 : w3015.cell? ⟨g3014, 0, none⟩ = some (.int .i64 0) := blk_cellv (HS.out.at3) 0 rfl; have hz3019 : w3015.frozen? ⟨g3014, 0, none⟩ = false := blk_fz (HS.out.at3) 0; have hc3020 : w3015.cell? ⟨g3014, 1, none⟩ = some (.int .i64 0) := blk_cellv (HS.out.at3) 1 rfl; have hz3021 : w3015.frozen? ⟨g3014, 1, none⟩ = false := blk_fz (HS.out.at3) 1; have hc3022 : w3015.cell? ⟨g3014, 2, none⟩ = some (.int .i64 0) := blk_cellv (HS.out.at3) 2 rfl; have hz3023 : w3015.frozen? ⟨g3014, 2, none⟩ = false := blk_fz (HS.out.at3) 2; have hc3024 : w3015.cell? ⟨g3014, 3, none⟩ = some (.int .i64 0) := blk_cellv (HS.out.at3) 3 rfl; have hz3025 : w3015.frozen? ⟨g3014, 3, none⟩ = false := blk_fz (HS.out.at3) 3; have hc3026 : w3015.cell? ⟨g3014, 4, none⟩ = some (.int .i64 0) := blk_cellv (HS.out.at3) 4 rfl; have hz3027 : w3015.frozen? ⟨g3014, 4, none⟩ = false := blk_fz (HS.out.at3) 4; have hc3028 : w3015.cell? ⟨g3014, 5, none⟩ = some (.int .i64 0) := blk_cellv (HS.out.at3) 5 rfl; have hz3029 : w3015.frozen? ⟨g3014, 5, none⟩ = false := blk_fz (HS.out.at3) 5; have hc3030 : w3015.cell? ⟨g3014, 6, none⟩ = some (.int .i64 0) := blk_cellv (HS.out.at3) 6 rfl; have hz3031 : w3015.frozen? ⟨g3014, 6, none⟩ = false := blk_fz (HS.out.at3) 6) | ((with_reducible refine gate_store (t := 79) (p := 4) rfl ?_); refine store_event (w1 := (World.setCell (World.setCell (World.setCell (World.setCell (World.setCell (World.setCell (World.setCell w3015 ⟨g3014, 0, none⟩ (.int .i64 0)) ⟨g3014, 1, none⟩ (.int .i64 0)) ⟨g3014, 2, none⟩ (.int .i64 0)) ⟨g3014, 3, none⟩ (.int .i64 0)) ⟨g3014, 4, none⟩ (.int .i64 0)) ⟨g3014, 5, none⟩ (.int .i64 0)) ⟨g3014, 6, none⟩ (.int .i64 0))) rfl (t := 79) (p := 4) rfl rfl ?hr ?_; (case hr => first | (go_simp; done) | (go_simp; rfl)); intro w3032 hst; clear hc3018 hz3019 hc3020 hz3021 hc3022 hz3023 hc3024 hz3025 hc3026 hz3027 hc3028 hz3029 hc3030 hz3031; replace HS : Aside0 (Sep FF w [b7 g2827 g2829 a2837 a2838 a2839 a2840, b6 g2829 A2832 l2831.length n2834 a2836, r5 A2832 l2831.length n2834 l2831, b16 g3014 0 0 0 0 0 0 0] w3032) := ⟨by rw [hst]; exact HS.out.setAll (l1 := [b7 g2827 g2829 a2837 a2838 a2839 a2840, b6 g2829 A2832 l2831.length n2834 a2836, r5 A2832 l2831.length n2834 l2831]) (l2 := []) [.int .i64 0, .int .i64 0, .int .i64 0, .int .i64 0, .int .i64 0, .int .i64 0, .int .i64 0] rfl⟩; clear hst))
    have hc3033 : w3032.cell? ⟨g3014, 0, none⟩ = some (.int .i64 0) := blk_cellv (HS.out.at3) 0 rfl
    have hc3034 : w3032.cell? ⟨g3014, 1, none⟩ = some (.int .i64 0) := blk_cellv (HS.out.at3) 1 rfl
    have hc3035 : w3032.cell? ⟨g3014, 2, none⟩ = some (.int .i64 0) := blk_cellv (HS.out.at3) 2 rfl
    have hc3036 : w3032.cell? ⟨g3014, 3, none⟩ = some (.int .i64 0) := blk_cellv (HS.out.at3) 3 rfl
    have hc3037 : w3032.cell? ⟨g3014, 4, none⟩ = some (.int .i64 0) := blk_cellv (HS.out.at3) 4 rfl
    have hc3038 : w3032.cell? ⟨g3014, 5, none⟩ = some (.int .i64 0) := blk_cellv (HS.out.at3) 5 rfl
    have hc3039 : w3032.cell? ⟨g3014, 6, none⟩ = some (.int .i64 0) := blk_cellv (HS.out.at3) 6 rfl
    refine bodyPost_ret (v := .tuple #[.agg #[.int .i64 0, .int .i64 0, .int .i64 0, .int .i64 0, .int .i64 0, .int .i64 0, .int .i64 0], .bool false]) (by simp [results, Tryz.results53, go_sem, hc3033, hc3034, hc3035, hc3036, hc3037, hc3038, hc3039]) rfl ?_
    rw [← some_eq H]
    exact ⟨(by first | rfl | (simp [IntKind.wrap_u32]; done)), HS.out.sub (.cons_cons _ (.cons_cons _ (.cons_cons _ (.cons _ .slnil))))⟩
  · replace H := if_no c3017 H
    have c3017b0 : decide (a2841 < 1) = false := decide_eq_false c3017
    clear c3017
    go_wp2_with (first | ((with_reducible refine gate_dst (N := 4) rfl ?_); refine box_on ?hg (N := 4) ?hd (cs := #[.int .i64 0, .int .i64 0, .int .i64 0, .int .i64 0, .int .i64 0, .int .i64 0, .int .i64 0]) (t := 79) ?hr ?_; (case hd => rfl); (case hg => rfl); (case hr => first | (go_simp; done) | (go_simp; rfl)); intro g3014 hg w3015 hbox hb; replace HS : Aside0 (Sep FF w [b7 g2827 g2829 a2837 a2838 a2839 a2840, b6 g2829 A2832 l2831.length n2834 a2836, r5 A2832 l2831.length n2834 l2831, b16 g3014 0 0 0 0 0 0 0] w3015) := ⟨HS.out.box hg hbox hb⟩; clear hg hbox hb))
    obtain ⟨t3040, HA3041, H⟩ := bind_some H
    refine (ground_Ground_Conf.calls l2831 a2836 a2837 a2838 a2839 a2840 g2827 g2829 A2832 l2831.length n2834 t3040 _ ⟨HGl0.out.pass HS.out⟩ ⟨HS.out.begin⟩ HA3041).mono ?_
    rintro e_ w3042 ⟨rfl, hS⟩
    replace HS : Aside0 (Sep FF w [b7 g2827 g2829 a2837 a2838 a2839 a2840, b6 g2829 A2832 l2831.length n2834 a2836, r5 A2832 l2831.length n2834 l2831, b16 g3014 0 0 0 0 0 0 0] w3042) := ⟨HS.out.call hS⟩
    clear hS
    by_cases c3044 : a2841 > t3040.1
    · replace H := if_yes c3044 H
      have c3044b0 : decide (t3040.1 < a2841) = true := decide_eq_true c3044
      clear c3044
      have fl3043 : ∀ w, (Instr.field 29 (.agg #[.int .i64 t3040.1, .int .i64 t3040.2.1, .int .i64 t3040.2.2.1, .int .i64 t3040.2.2.2]) 0).run Tryz.prog w = .ok (.int .i64 t3040.1) w := fun _ => by kernel_rfl
      have hc3045 : w3042.cell? ⟨g3014, 0, none⟩ = some (.int .i64 0) := blk_cellv (HS.out.at3) 0 rfl
      have hz3046 : w3042.frozen? ⟨g3014, 0, none⟩ = false := blk_fz (HS.out.at3) 0
      have hc3047 : w3042.cell? ⟨g3014, 1, none⟩ = some (.int .i64 0) := blk_cellv (HS.out.at3) 1 rfl
      have hz3048 : w3042.frozen? ⟨g3014, 1, none⟩ = false := blk_fz (HS.out.at3) 1
      have hc3049 : w3042.cell? ⟨g3014, 2, none⟩ = some (.int .i64 0) := blk_cellv (HS.out.at3) 2 rfl
      have hz3050 : w3042.frozen? ⟨g3014, 2, none⟩ = false := blk_fz (HS.out.at3) 2
      have hc3051 : w3042.cell? ⟨g3014, 3, none⟩ = some (.int .i64 0) := blk_cellv (HS.out.at3) 3 rfl
      have hz3052 : w3042.frozen? ⟨g3014, 3, none⟩ = false := blk_fz (HS.out.at3) 3
      have hc3053 : w3042.cell? ⟨g3014, 4, none⟩ = some (.int .i64 0) := blk_cellv (HS.out.at3) 4 rfl
      have hz3054 : w3042.frozen? ⟨g3014, 4, none⟩ = false := blk_fz (HS.out.at3) 4
      have hc3055 : w3042.cell? ⟨g3014, 5, none⟩ = some (.int .i64 0) := blk_cellv (HS.out.at3) 5 rfl
      have hz3056 : w3042.frozen? ⟨g3014, 5, none⟩ = false := blk_fz (HS.out.at3) 5
      have hc3057 : w3042.cell? ⟨g3014, 6, none⟩ = some (.int .i64 0) := blk_cellv (HS.out.at3) 6 rfl
      have hz3058 : w3042.frozen? ⟨g3014, 6, none⟩ = false := blk_fz (HS.out.at3) 6
      go_wp2_with (first | ((with_reducible refine gate_store (t := 79) (p := 4) rfl ?_); refine store_event (w1 := (World.setCell (World.setCell (World.setCell (World.setCell (World.setCell (World.setCell (World.setCell w3042 ⟨g3014, 0, none⟩ (.int .i64 0)) ⟨g3014, 1, none⟩ (.int .i64 0)) ⟨g3014, 2, none⟩ (.int .i64 0)) ⟨g3014, 3, none⟩ (.int .i64 0)) ⟨g3014, 4, none⟩ (.int .i64 0)) ⟨g3014, 5, none⟩ (.int .i64 0)) ⟨g3014, 6, none⟩ (.int .i64 0))) rfl (t := 79) (p := 4) rfl rfl ?hr ?_; (case hr => first | (go_simp; done) | (go_simp; rfl)); intro w3059 hst; clear fl3043 hc3045 hz3046 hc3047 hz3048 hc3049 hz3050 hc3051 hz3052 hc3053 hz3054 hc3055 hz3056 hc3057 hz3058; replace HS : Aside0 (Sep FF w [b7 g2827 g2829 a2837 a2838 a2839 a2840, b6 g2829 A2832 l2831.length n2834 a2836, r5 A2832 l2831.length n2834 l2831, b16 g3014 0 0 0 0 0 0 0] w3059) := ⟨by rw [hst]; exact HS.out.setAll (l1 := [b7 g2827 g2829 a2837 a2838 a2839 a2840, b6 g2829 A2832 l2831.length n2834 a2836, r5 A2832 l2831.length n2834 l2831]) (l2 := []) [.int .i64 0, .int .i64 0, .int .i64 0, .int .i64 0, .int .i64 0, .int .i64 0, .int .i64 0] rfl⟩; clear hst))
      have hc3060 : w3059.cell? ⟨g3014, 0, none⟩ = some (.int .i64 0) := blk_cellv (HS.out.at3) 0 rfl
      have hc3061 : w3059.cell? ⟨g3014, 1, none⟩ = some (.int .i64 0) := blk_cellv (HS.out.at3) 1 rfl
      have hc3062 : w3059.cell? ⟨g3014, 2, none⟩ = some (.int .i64 0) := blk_cellv (HS.out.at3) 2 rfl
      have hc3063 : w3059.cell? ⟨g3014, 3, none⟩ = some (.int .i64 0) := blk_cellv (HS.out.at3) 3 rfl
      have hc3064 : w3059.cell? ⟨g3014, 4, none⟩ = some (.int .i64 0) := blk_cellv (HS.out.at3) 4 rfl
      have hc3065 : w3059.cell? ⟨g3014, 5, none⟩ = some (.int .i64 0) := blk_cellv (HS.out.at3) 5 rfl
      have hc3066 : w3059.cell? ⟨g3014, 6, none⟩ = some (.int .i64 0) := blk_cellv (HS.out.at3) 6 rfl
      refine bodyPost_ret (v := .tuple #[.agg #[.int .i64 0, .int .i64 0, .int .i64 0, .int .i64 0, .int .i64 0, .int .i64 0, .int .i64 0], .bool false]) (by simp [results, Tryz.results53, go_sem, hc3060, hc3061, hc3062, hc3063, hc3064, hc3065, hc3066]) rfl ?_
      rw [← some_eq H]
      exact ⟨(by first | rfl | (simp [IntKind.wrap_u32]; done)), HS.out.sub (.cons_cons _ (.cons_cons _ (.cons_cons _ (.cons _ .slnil))))⟩
    · replace H := if_no c3044 H
      have c3044b0 : decide (t3040.1 < a2841) = false := decide_eq_false c3044
      clear c3044
      have fl3043 : ∀ w, (Instr.field 29 (.agg #[.int .i64 t3040.1, .int .i64 t3040.2.1, .int .i64 t3040.2.2.1, .int .i64 t3040.2.2.2]) 0).run Tryz.prog w = .ok (.int .i64 t3040.1) w := fun _ => by kernel_rfl
      go_wp2_with fail
      clear fl3043
      obtain ⟨t3067, HA3068, H⟩ := bind_some H
      refine (ground_Ground_Word.calls l2831 a2836 a2837 a2838 a2839 a2840 (wrap64 (a2841 - 1)) 0 g2827 g2829 A2832 l2831.length n2834 t3067 _ ⟨HGl0.out.pass HS.out⟩ ⟨HS.out.begin⟩ HA3068).mono ?_
      rintro e_ w3069 ⟨rfl, hS⟩
      replace HS : Aside0 (Sep FF w [b7 g2827 g2829 a2837 a2838 a2839 a2840, b6 g2829 A2832 l2831.length n2834 t3067.2, r5 A2832 l2831.length n2834 l2831, b16 g3014 0 0 0 0 0 0 0] w3069) := ⟨HS.out.call hS⟩
      clear hS
      go_wp2_with fail
      obtain ⟨t3070, HA3071, H⟩ := bind_some H
      refine (tag_Unpack.calls t3067.1 t3070 _ ⟨HGl0.out.pass (l := []) HS.out⟩ ⟨Sep.start _⟩ HA3071).mono ?_
      rintro e_ w3072 ⟨rfl, hS⟩
      replace HS : Aside0 (Sep FF w [b7 g2827 g2829 a2837 a2838 a2839 a2840, b6 g2829 A2832 l2831.length n2834 t3067.2, r5 A2832 l2831.length n2834 l2831, b16 g3014 0 0 0 0 0 0 0] w3072) := ⟨HS.out.call hS⟩
      clear hS
      go_wp2_with (first | ((with_reducible refine gate_dst (N := 6) rfl ?_); refine box_on ?hg (N := 6) ?hd (cs := #[.int .i64 0, .int .i64 0, .int .i64 0, .int .i64 0, .int .i64 0, .int .i64 0, .int .i64 0]) (t := 79) ?hr ?_; (case hd => rfl); (case hg => rfl); (case hr => first | (go_simp; done) | (go_simp; rfl)); intro g3073 hg w3074 hbox hb; replace HS : Aside0 (Sep FF w [b7 g2827 g2829 a2837 a2838 a2839 a2840, b6 g2829 A2832 l2831.length n2834 t3067.2, r5 A2832 l2831.length n2834 l2831, b16 g3014 0 0 0 0 0 0 0, b16 g3073 0 0 0 0 0 0 0] w3074) := ⟨HS.out.box hg hbox hb⟩; clear hg hbox hb; have hc3076 : w3074.cell? ⟨g3073, 0, none⟩ = some (.int .i64 0) := blk_cellv (HS.out.at4) 0 rfl; have hz3077 : w3074.frozen? ⟨g3073, 0, none⟩ = false := blk_fz (HS.out.at4) 0; have hc3078 : w3074.cell? ⟨g3073, 1, none⟩ = some (.int .i64 0) := blk_cellv (HS.out.at4) 1 rfl; have hz3079 : w3074.frozen? ⟨g3073, 1, none⟩ = false := blk_fz (HS.out.at4) 1; have hc3080 : w3074.cell? ⟨g3073, 2, none⟩ = some (.int .i64 0) := blk_cellv (HS.out.at4) 2 rfl; have hz3081 : w3074.frozen? ⟨g3073, 2, none⟩ = false := blk_fz (HS.out.at4) 2; have hc3082 : w3074.cell? ⟨g3073, 3, none⟩ = some (.int .i64 0) := blk_cellv (HS.out.at4) 3 rfl; have hz3083 : w3074.frozen? ⟨g3073, 3, none⟩ = false := blk_fz (HS.out.at4) 3; have hc3084 : w3074.cell? ⟨g3073, 4, none⟩ = some (.int .i64 0) := blk_cellv (HS.out.at4) 4 rfl; have hz3085 : w3074.frozen? ⟨g3073, 4, none⟩ = false := blk_fz (HS.out.at4) 4; have hc3086 : w3074.cell? ⟨g3073, 5, none⟩ = some (.int .i64 0) := blk_cellv (HS.out.at4) 5 rfl; have hz3087 : w3074.frozen? ⟨g3073, 5, none⟩ = false := blk_fz (HS.out.at4) 5; have hc3088 : w3074.cell? ⟨g3073, 6, none⟩ = some (.int .i64 0) := blk_cellv (HS.out.at4) 6 rfl; have hz3089 : w3074.frozen? ⟨g3073, 6, none⟩ = false := blk_fz (HS.out.at4) 6) | ((with_reducible refine gate_store (t := 79) (p := 6) rfl ?_); refine store_event (w1 := (World.setCell (World.setCell (World.setCell (World.setCell (World.setCell (World.setCell (World.setCell w3074 ⟨g3073, 0, none⟩ (.int .i64 t3070.1)) ⟨g3073, 1, none⟩ (.int .i64 t3070.2.1)) ⟨g3073, 2, none⟩ (.int .i64 t3070.2.2.1)) ⟨g3073, 3, none⟩ (.int .i64 t3070.2.2.2.1)) ⟨g3073, 4, none⟩ (.int .i64 t3070.2.2.2.2.1)) ⟨g3073, 5, none⟩ (.int .i64 t3070.2.2.2.2.2.1)) ⟨g3073, 6, none⟩ (.int .i64 t3070.2.2.2.2.2.2))) rfl (t := 79) (p := 6) rfl rfl ?hr ?_; (case hr => first | (go_simp; done) | (go_simp; rfl)); intro w3090 hst; clear hc3076 hz3077 hc3078 hz3079 hc3080 hz3081 hc3082 hz3083 hc3084 hz3085 hc3086 hz3087 hc3088 hz3089; replace HS : Aside0 (Sep FF w [b7 g2827 g2829 a2837 a2838 a2839 a2840, b6 g2829 A2832 l2831.length n2834 t3067.2, r5 A2832 l2831.length n2834 l2831, b16 g3014 0 0 0 0 0 0 0, b16 g3073 t3070.1 t3070.2.1 t3070.2.2.1 t3070.2.2.2.1 t3070.2.2.2.2.1 t3070.2.2.2.2.2.1 t3070.2.2.2.2.2.2] w3090) := ⟨by rw [hst]; exact HS.out.setAll (l1 := [b7 g2827 g2829 a2837 a2838 a2839 a2840, b6 g2829 A2832 l2831.length n2834 t3067.2, r5 A2832 l2831.length n2834 l2831, b16 g3014 0 0 0 0 0 0 0]) (l2 := []) [.int .i64 t3070.1, .int .i64 t3070.2.1, .int .i64 t3070.2.2.1, .int .i64 t3070.2.2.2.1, .int .i64 t3070.2.2.2.2.1, .int .i64 t3070.2.2.2.2.2.1, .int .i64 t3070.2.2.2.2.2.2] rfl⟩; clear hst))
      refine start_ (n := 11) (S := (fun w' => w'.cell? ⟨g3073, 0, none⟩ = some (.int .i64 t3070.1) ∧ w'.cell? ⟨g3073, 1, none⟩ = some (.int .i64 t3070.2.1) ∧ w'.cell? ⟨g3073, 2, none⟩ = some (.int .i64 t3070.2.2.1) ∧ w'.cell? ⟨g3073, 3, none⟩ = some (.int .i64 t3070.2.2.2.1) ∧ w'.cell? ⟨g3073, 4, none⟩ = some (.int .i64 t3070.2.2.2.2.1) ∧ w'.cell? ⟨g3073, 5, none⟩ = some (.int .i64 t3070.2.2.2.2.2.1) ∧ w'.cell? ⟨g3073, 6, none⟩ = some (.int .i64 t3070.2.2.2.2.2.2))) (ds := []) #[false, false, false, false, false, false, false, false, false, false, false] (by kernel_rfl) rfl rfl (⟨blk_cellv ((HS.out.drew).at4) 0 rfl, blk_cellv ((HS.out.drew).at4) 1 rfl, blk_cellv ((HS.out.drew).at4) 2 rfl, blk_cellv ((HS.out.drew).at4) 3 rfl, blk_cellv ((HS.out.drew).at4) 4 rfl, blk_cellv ((HS.out.drew).at4) 5 rfl, blk_cellv ((HS.out.drew).at4) 6 rfl⟩) (fun hHeld => ?_)
      have HS_ := Aside0.mk HS.out.drew
      clear HS
      generalize World.drew _ = w3092 at HS_ hHeld ⊢
      have HS := HS_
      clear HS_
      refine pure_ (i := 1) (N := some 27) (v := ?_) (a' := ?_) #[false, true, false, false, false, false, false, false, false, false, false] rfl rfl (by kernel_rfl) (fun _ _ _ h => h) (Or.inl ⟨by rfl, ?_⟩) ?_ ?_
      rotate_left
      · intro w'
        go_simp
        with_reducible rfl
      rotate_left
      · simp only [Act.put, List.setIfInBounds_toArray, List.set_cons_zero, List.set_cons_succ, i64_w, i32_w]
        rfl
      refine take_ (i := 0) (N := some 26) (v := ?_) (a' := ?_) #[true, true, false, false, false, false, false, false, false, false, false] rfl rfl (by kernel_rfl) (fun _ _ _ h => h) (Or.inl ⟨by rfl, ?_⟩) hHeld ?_ ?_
      rotate_left
      · rintro w' hS'
        obtain ⟨s0, s1, s2, s3, s4, s5, s6⟩ := hS'
        go_simp
        with_reducible rfl
      rotate_left
      · simp only [Act.put, List.setIfInBounds_toArray, List.set_cons_zero, List.set_cons_succ, i64_w, i32_w]
        rfl
      refine take_ (i := 2) (N := some 28) (v := ?_) (a' := ?_) #[true, true, true, false, false, false, false, false, false, false, false] rfl rfl (by kernel_rfl) (fun _ _ _ h => h) (Or.inl ⟨by rfl, ?_⟩) hHeld ?_ ?_
      rotate_left
      · rintro w' hS'
        obtain ⟨s0, s1, s2, s3, s4, s5, s6⟩ := hS'
        go_simp
        with_reducible rfl
      rotate_left
      · simp only [Act.put, List.setIfInBounds_toArray, List.set_cons_zero, List.set_cons_succ, i64_w, i32_w]
        rfl
      refine pure_ (i := 3) (N := some 29) (v := ?_) (a' := ?_) #[true, true, true, true, false, false, false, false, false, false, false] rfl rfl (by kernel_rfl) (fun _ _ _ h => h) (Or.inl ⟨by rfl, ?_⟩) ?_ ?_
      rotate_left
      · intro w'
        go_simp
        with_reducible rfl
      rotate_left
      · simp only [Act.put, List.setIfInBounds_toArray, List.set_cons_zero, List.set_cons_succ, i64_w, i32_w]
        rfl
      refine pure_ (i := 4) (N := some 30) (v := ?_) (a' := ?_) #[true, true, true, true, true, false, false, false, false, false, false] rfl rfl (by kernel_rfl) (fun _ _ _ h => h) (Or.inl ⟨by rfl, ?_⟩) ?_ ?_
      rotate_left
      · intro w'
        go_simp
        with_reducible rfl
      rotate_left
      · simp only [Act.put, List.setIfInBounds_toArray, List.set_cons_zero, List.set_cons_succ, i64_w, i32_w]
        rfl
      by_cases c3093 : t3070.1 = 1
      · replace H := if_yes c3093 H
        have c3093b0 : (t3070.1 == 1) = true := beq_iff_eq.mpr c3093
        have c3093b1 : (t3070.1 != 1) = false := bne_eq_false_iff_eq.mpr c3093
        clear c3093
        try simp only [c3093b0, Bool.not_true, Bool.not_false]
        refine pure_ (i := 5) (N := some 31) (v := undef) (a' := ?_) #[true, true, true, true, true, true, false, false, false, false, false] rfl rfl (by kernel_rfl) (fun _ _ _ h => h) (Or.inr ⟨by rfl, rfl⟩) ?_ ?_
        rotate_left
        · simp only [Act.put, List.setIfInBounds_toArray, List.set_cons_zero, List.set_cons_succ, i64_w, i32_w]
          rfl
        try simp only [c3093b0, Bool.not_true, Bool.not_false]
        refine pure_ (i := 6) (N := some 32) (v := undef) (a' := ?_) #[true, true, true, true, true, true, true, false, false, false, false] rfl rfl (by kernel_rfl) (fun _ _ _ h => h) (Or.inr ⟨by rfl, rfl⟩) ?_ ?_
        rotate_left
        · simp only [Act.put, List.setIfInBounds_toArray, List.set_cons_zero, List.set_cons_succ, i64_w, i32_w]
          rfl
        try simp only [c3093b0, Bool.not_true, Bool.not_false]
        refine pure_ (i := 7) (N := some 33) (v := undef) (a' := ?_) #[true, true, true, true, true, true, true, true, false, false, false] rfl rfl (by kernel_rfl) (fun _ _ _ h => h) (Or.inr ⟨by rfl, rfl⟩) ?_ ?_
        rotate_left
        · simp only [Act.put, List.setIfInBounds_toArray, List.set_cons_zero, List.set_cons_succ, i64_w, i32_w]
          rfl
        refine pure_ (i := 8) (N := some 34) (v := ?_) (a' := ?_) #[true, true, true, true, true, true, true, true, true, false, false] rfl rfl (by kernel_rfl) (fun _ _ _ h => h) (Or.inl ⟨by rfl, ?_⟩) ?_ ?_
        rotate_left
        · intro w'
          go_simp
          with_reducible rfl
        rotate_left
        · simp only [Act.put, List.setIfInBounds_toArray, List.set_cons_zero, List.set_cons_succ, i64_w, i32_w]
          rfl
        refine one_ (i := 9) (N := none) #[true, true, true, true, true, true, true, true, true, true, false] rfl rfl (by kernel_rfl) (by decide) (fun K hK => ?_)
        have hc3095 := blk_cellv (v := .int .i64 0) (HS.out.at3) 0 rfl
        have hz3096 := blk_fz (HS.out.at3) 0
        have hc3097 := blk_cellv (v := .int .i64 0) (HS.out.at3) 1 rfl
        have hz3098 := blk_fz (HS.out.at3) 1
        have hc3099 := blk_cellv (v := .int .i64 0) (HS.out.at3) 2 rfl
        have hz3100 := blk_fz (HS.out.at3) 2
        have hc3101 := blk_cellv (v := .int .i64 0) (HS.out.at3) 3 rfl
        have hz3102 := blk_fz (HS.out.at3) 3
        have hc3103 := blk_cellv (v := .int .i64 0) (HS.out.at3) 4 rfl
        have hz3104 := blk_fz (HS.out.at3) 4
        have hc3105 := blk_cellv (v := .int .i64 0) (HS.out.at3) 5 rfl
        have hz3106 := blk_fz (HS.out.at3) 5
        have hc3107 := blk_cellv (v := .int .i64 0) (HS.out.at3) 6 rfl
        have hz3108 := blk_fz (HS.out.at3) 6
        refine store_step (w1 := (World.setCell (World.setCell (World.setCell (World.setCell (World.setCell (World.setCell (World.setCell w3092 ⟨g3014, 0, none⟩ (.int .i64 t3070.1)) ⟨g3014, 1, none⟩ (.int .i64 t3070.2.1)) ⟨g3014, 2, none⟩ (.int .i64 t3070.2.2.1)) ⟨g3014, 3, none⟩ (.int .i64 t3070.2.2.2.1)) ⟨g3014, 4, none⟩ (.int .i64 t3070.2.2.2.2.1)) ⟨g3014, 5, none⟩ (.int .i64 t3070.2.2.2.2.2.1)) ⟨g3014, 6, none⟩ (.int .i64 t3070.2.2.2.2.2.2))) (by rfl) rfl ?hr ?_
        case hr => first | (go_simp; done) | (go_simp; rfl)
        clear hc3095 hz3096 hc3097 hz3098 hc3099 hz3100 hc3101 hz3102 hc3103 hz3104 hc3105 hz3106 hc3107 hz3108
        intro w3094 hst
        replace HS : Aside0 (Sep FF w [b7 g2827 g2829 a2837 a2838 a2839 a2840, b6 g2829 A2832 l2831.length n2834 t3067.2, r5 A2832 l2831.length n2834 l2831, b16 g3014 t3070.1 t3070.2.1 t3070.2.2.1 t3070.2.2.2.1 t3070.2.2.2.2.1 t3070.2.2.2.2.2.1 t3070.2.2.2.2.2.2, b16 g3073 t3070.1 t3070.2.1 t3070.2.2.1 t3070.2.2.2.1 t3070.2.2.2.2.1 t3070.2.2.2.2.2.1 t3070.2.2.2.2.2.2] w3094) := ⟨by rw [hst]; exact HS.out.setAll (l1 := [b7 g2827 g2829 a2837 a2838 a2839 a2840, b6 g2829 A2832 l2831.length n2834 t3067.2, r5 A2832 l2831.length n2834 l2831]) (l2 := [b16 g3073 t3070.1 t3070.2.1 t3070.2.2.1 t3070.2.2.2.1 t3070.2.2.2.2.1 t3070.2.2.2.2.2.1 t3070.2.2.2.2.2.2]) [.int .i64 t3070.1, .int .i64 t3070.2.1, .int .i64 t3070.2.2.1, .int .i64 t3070.2.2.2.1, .int .i64 t3070.2.2.2.2.1, .int .i64 t3070.2.2.2.2.2.1, .int .i64 t3070.2.2.2.2.2.2] rfl⟩
        clear hst
        refine hK.out _ _ (⟨blk_cellv (HS.out.at4) 0 rfl, blk_cellv (HS.out.at4) 1 rfl, blk_cellv (HS.out.at4) 2 rfl, blk_cellv (HS.out.at4) 3 rfl, blk_cellv (HS.out.at4) 4 rfl, blk_cellv (HS.out.at4) 5 rfl, blk_cellv (HS.out.at4) 6 rfl⟩) (fun hHeld => ?_)
        clear hK K
        refine pure_ (i := 10) (N := some 5) (v := ?_) (a' := ?_) #[true, true, true, true, true, true, true, true, true, true, true] rfl rfl (by kernel_rfl) (fun _ _ _ h => h) (Or.inl ⟨by rfl, ?_⟩) ?_ ?_
        rotate_left
        · intro w'
          go_simp
          with_reducible rfl
        rotate_left
        · simp only [Act.put, List.setIfInBounds_toArray, List.set_cons_zero, List.set_cons_succ, i64_w, i32_w]
          rfl
        refine done_ (by kernel_rfl) ?_
        replace HS : Aside0 (Sep FF w [b7 g2827 g2829 a2837 a2838 a2839 a2840, b6 g2829 A2832 l2831.length n2834 t3067.2, r5 A2832 l2831.length n2834 l2831, b16 g3014 t3070.1 t3070.2.1 t3070.2.2.1 t3070.2.2.2.1 t3070.2.2.2.2.1 t3070.2.2.2.2.2.1 t3070.2.2.2.2.2.2] w3094) := ⟨HS.out.sub (.cons_cons _ (.cons_cons _ (.cons_cons _ (.cons_cons _ (.cons _ .slnil)))))⟩
        go_wp2_with fail
        have hc3109 : w3094.cell? ⟨g3014, 0, none⟩ = some (.int .i64 t3070.1) := blk_cellv (HS.out.at3) 0 rfl
        have hc3110 : w3094.cell? ⟨g3014, 1, none⟩ = some (.int .i64 t3070.2.1) := blk_cellv (HS.out.at3) 1 rfl
        have hc3111 : w3094.cell? ⟨g3014, 2, none⟩ = some (.int .i64 t3070.2.2.1) := blk_cellv (HS.out.at3) 2 rfl
        have hc3112 : w3094.cell? ⟨g3014, 3, none⟩ = some (.int .i64 t3070.2.2.2.1) := blk_cellv (HS.out.at3) 3 rfl
        have hc3113 : w3094.cell? ⟨g3014, 4, none⟩ = some (.int .i64 t3070.2.2.2.2.1) := blk_cellv (HS.out.at3) 4 rfl
        have hc3114 : w3094.cell? ⟨g3014, 5, none⟩ = some (.int .i64 t3070.2.2.2.2.2.1) := blk_cellv (HS.out.at3) 5 rfl
        have hc3115 : w3094.cell? ⟨g3014, 6, none⟩ = some (.int .i64 t3070.2.2.2.2.2.2) := blk_cellv (HS.out.at3) 6 rfl
        refine bodyPost_ret (v := .tuple #[.agg #[.int .i64 t3070.1, .int .i64 t3070.2.1, .int .i64 t3070.2.2.1, .int .i64 t3070.2.2.2.1, .int .i64 t3070.2.2.2.2.1, .int .i64 t3070.2.2.2.2.2.1, .int .i64 t3070.2.2.2.2.2.2], .bool true]) (by simp [results, Tryz.results53, go_sem, hc3109, hc3110, hc3111, hc3112, hc3113, hc3114, hc3115]) rfl ?_
        rw [← some_eq H]
        exact ⟨(by first | rfl | (simp [IntKind.wrap_u32]; done)), HS.out.sub (.cons_cons _ (.cons_cons _ (.cons_cons _ (.cons _ .slnil))))⟩
      · replace H := if_no c3093 H
        have c3093b0 : (t3070.1 == 1) = false := beq_eq_false_iff_ne.mpr c3093
        have c3093b1 : (t3070.1 != 1) = true := bne_iff_ne.mpr c3093
        clear c3093
        try simp only [c3093b0, Bool.not_true, Bool.not_false]
        refine pure_ (i := 5) (N := some 31) (v := ?_) (a' := ?_) #[true, true, true, true, true, true, false, false, false, false, false] rfl rfl (by kernel_rfl) (fun _ _ _ h => h) (Or.inl ⟨by rfl, ?_⟩) ?_ ?_
        rotate_left
        · intro w'
          go_simp
          with_reducible rfl
        rotate_left
        · simp only [Act.put, List.setIfInBounds_toArray, List.set_cons_zero, List.set_cons_succ, i64_w, i32_w]
          rfl
        try simp only [c3093b0, Bool.not_true, Bool.not_false]
        refine take_ (i := 6) (N := some 32) (v := ?_) (a' := ?_) #[true, true, true, true, true, true, true, false, false, false, false] rfl rfl (by kernel_rfl) (fun _ _ _ h => h) (Or.inl ⟨by rfl, ?_⟩) hHeld ?_ ?_
        rotate_left
        · rintro w' hS'
          obtain ⟨s0, s1, s2, s3, s4, s5, s6⟩ := hS'
          go_simp
          with_reducible rfl
        rotate_left
        · simp only [Act.put, List.setIfInBounds_toArray, List.set_cons_zero, List.set_cons_succ, i64_w, i32_w]
          rfl
        try simp only [c3093b0, Bool.not_true, Bool.not_false]
        refine pure_ (i := 7) (N := some 33) (v := ?_) (a' := ?_) #[true, true, true, true, true, true, true, true, false, false, false] rfl rfl (by kernel_rfl) (fun _ _ _ h => h) (Or.inl ⟨by rfl, ?_⟩) ?_ ?_
        rotate_left
        · intro w'
          go_simp
          with_reducible rfl
        rotate_left
        · simp only [Act.put, List.setIfInBounds_toArray, List.set_cons_zero, List.set_cons_succ, i64_w, i32_w]
          rfl
        refine pure_ (i := 8) (N := some 34) (v := ?_) (a' := ?_) #[true, true, true, true, true, true, true, true, true, false, false] rfl rfl (by kernel_rfl) (fun _ _ _ h => h) (Or.inl ⟨by rfl, ?_⟩) ?_ ?_
        rotate_left
        · intro w'
          go_simp
          with_reducible rfl
        rotate_left
        · simp only [Act.put, List.setIfInBounds_toArray, List.set_cons_zero, List.set_cons_succ, i64_w, i32_w]
          rfl
        refine one_ (i := 9) (N := none) #[true, true, true, true, true, true, true, true, true, true, false] rfl rfl (by kernel_rfl) (by decide) (fun K hK => ?_)
        have hc3117 := blk_cellv (v := .int .i64 0) (HS.out.at3) 0 rfl
        have hz3118 := blk_fz (HS.out.at3) 0
        have hc3119 := blk_cellv (v := .int .i64 0) (HS.out.at3) 1 rfl
        have hz3120 := blk_fz (HS.out.at3) 1
        have hc3121 := blk_cellv (v := .int .i64 0) (HS.out.at3) 2 rfl
        have hz3122 := blk_fz (HS.out.at3) 2
        have hc3123 := blk_cellv (v := .int .i64 0) (HS.out.at3) 3 rfl
        have hz3124 := blk_fz (HS.out.at3) 3
        have hc3125 := blk_cellv (v := .int .i64 0) (HS.out.at3) 4 rfl
        have hz3126 := blk_fz (HS.out.at3) 4
        have hc3127 := blk_cellv (v := .int .i64 0) (HS.out.at3) 5 rfl
        have hz3128 := blk_fz (HS.out.at3) 5
        have hc3129 := blk_cellv (v := .int .i64 0) (HS.out.at3) 6 rfl
        have hz3130 := blk_fz (HS.out.at3) 6
        refine store_step (w1 := (World.setCell (World.setCell (World.setCell (World.setCell (World.setCell (World.setCell (World.setCell w3092 ⟨g3014, 0, none⟩ (.int .i64 t3070.1)) ⟨g3014, 1, none⟩ (.int .i64 t3070.2.1)) ⟨g3014, 2, none⟩ (.int .i64 t3070.2.2.1)) ⟨g3014, 3, none⟩ (.int .i64 t3070.2.2.2.1)) ⟨g3014, 4, none⟩ (.int .i64 t3070.2.2.2.2.1)) ⟨g3014, 5, none⟩ (.int .i64 t3070.2.2.2.2.2.1)) ⟨g3014, 6, none⟩ (.int .i64 t3070.2.2.2.2.2.2))) (by rfl) rfl ?hr ?_
        case hr => first | (go_simp; done) | (go_simp; rfl)
        clear hc3117 hz3118 hc3119 hz3120 hc3121 hz3122 hc3123 hz3124 hc3125 hz3126 hc3127 hz3128 hc3129 hz3130
        intro w3116 hst
        replace HS : Aside0 (Sep FF w [b7 g2827 g2829 a2837 a2838 a2839 a2840, b6 g2829 A2832 l2831.length n2834 t3067.2, r5 A2832 l2831.length n2834 l2831, b16 g3014 t3070.1 t3070.2.1 t3070.2.2.1 t3070.2.2.2.1 t3070.2.2.2.2.1 t3070.2.2.2.2.2.1 t3070.2.2.2.2.2.2, b16 g3073 t3070.1 t3070.2.1 t3070.2.2.1 t3070.2.2.2.1 t3070.2.2.2.2.1 t3070.2.2.2.2.2.1 t3070.2.2.2.2.2.2] w3116) := ⟨by rw [hst]; exact HS.out.setAll (l1 := [b7 g2827 g2829 a2837 a2838 a2839 a2840, b6 g2829 A2832 l2831.length n2834 t3067.2, r5 A2832 l2831.length n2834 l2831]) (l2 := [b16 g3073 t3070.1 t3070.2.1 t3070.2.2.1 t3070.2.2.2.1 t3070.2.2.2.2.1 t3070.2.2.2.2.2.1 t3070.2.2.2.2.2.2]) [.int .i64 t3070.1, .int .i64 t3070.2.1, .int .i64 t3070.2.2.1, .int .i64 t3070.2.2.2.1, .int .i64 t3070.2.2.2.2.1, .int .i64 t3070.2.2.2.2.2.1, .int .i64 t3070.2.2.2.2.2.2] rfl⟩
        clear hst
        refine hK.out _ _ (⟨blk_cellv (HS.out.at4) 0 rfl, blk_cellv (HS.out.at4) 1 rfl, blk_cellv (HS.out.at4) 2 rfl, blk_cellv (HS.out.at4) 3 rfl, blk_cellv (HS.out.at4) 4 rfl, blk_cellv (HS.out.at4) 5 rfl, blk_cellv (HS.out.at4) 6 rfl⟩) (fun hHeld => ?_)
        clear hK K
        refine pure_ (i := 10) (N := some 5) (v := ?_) (a' := ?_) #[true, true, true, true, true, true, true, true, true, true, true] rfl rfl (by kernel_rfl) (fun _ _ _ h => h) (Or.inl ⟨by rfl, ?_⟩) ?_ ?_
        rotate_left
        · intro w'
          go_simp
          with_reducible rfl
        rotate_left
        · simp only [Act.put, List.setIfInBounds_toArray, List.set_cons_zero, List.set_cons_succ, i64_w, i32_w]
          rfl
        refine done_ (by kernel_rfl) ?_
        replace HS : Aside0 (Sep FF w [b7 g2827 g2829 a2837 a2838 a2839 a2840, b6 g2829 A2832 l2831.length n2834 t3067.2, r5 A2832 l2831.length n2834 l2831, b16 g3014 t3070.1 t3070.2.1 t3070.2.2.1 t3070.2.2.2.1 t3070.2.2.2.2.1 t3070.2.2.2.2.2.1 t3070.2.2.2.2.2.2] w3116) := ⟨HS.out.sub (.cons_cons _ (.cons_cons _ (.cons_cons _ (.cons_cons _ (.cons _ .slnil)))))⟩
        go_wp2_with fail
        have hc3131 : w3116.cell? ⟨g3014, 0, none⟩ = some (.int .i64 t3070.1) := blk_cellv (HS.out.at3) 0 rfl
        have hc3132 : w3116.cell? ⟨g3014, 1, none⟩ = some (.int .i64 t3070.2.1) := blk_cellv (HS.out.at3) 1 rfl
        have hc3133 : w3116.cell? ⟨g3014, 2, none⟩ = some (.int .i64 t3070.2.2.1) := blk_cellv (HS.out.at3) 2 rfl
        have hc3134 : w3116.cell? ⟨g3014, 3, none⟩ = some (.int .i64 t3070.2.2.2.1) := blk_cellv (HS.out.at3) 3 rfl
        have hc3135 : w3116.cell? ⟨g3014, 4, none⟩ = some (.int .i64 t3070.2.2.2.2.1) := blk_cellv (HS.out.at3) 4 rfl
        have hc3136 : w3116.cell? ⟨g3014, 5, none⟩ = some (.int .i64 t3070.2.2.2.2.2.1) := blk_cellv (HS.out.at3) 5 rfl
        have hc3137 : w3116.cell? ⟨g3014, 6, none⟩ = some (.int .i64 t3070.2.2.2.2.2.2) := blk_cellv (HS.out.at3) 6 rfl
        refine bodyPost_ret (v := .tuple #[.agg #[.int .i64 t3070.1, .int .i64 t3070.2.1, .int .i64 t3070.2.2.1, .int .i64 t3070.2.2.2.1, .int .i64 t3070.2.2.2.2.1, .int .i64 t3070.2.2.2.2.2.1, .int .i64 t3070.2.2.2.2.2.2], .bool (t3070.1 == 2)]) (by simp [results, Tryz.results53, go_sem, hc3131, hc3132, hc3133, hc3134, hc3135, hc3136, hc3137]) rfl ?_
        rw [← some_eq H]
        exact ⟨(by first | rfl | (simp [IntKind.wrap_u32]; done)), HS.out.sub (.cons_cons _ (.cons_cons _ (.cons_cons _ (.cons _ .slnil))))⟩

set_option maxHeartbeats 30000000 in
set_option maxRecDepth 100000 in
theorem tint_Parity.calls (l3165 : List Int) (a3170 : Int) (a3171 : Int) (a3172 : Int) (a3173 : Int) (a3174 : Int) (g3161 : Nat) (g3163 : Nat) (A3166 : Option Addr) (m3167 : Nat) (n3168 : Nat) (r : Int × Int) (w : World)  (HGl0 : Aside0 (Gl 0 #[.int .i64 0, .int .i64 0, .int .i64 0, .int .i64 0, .int .i64 0] (fps [b7 g3161 g3163 a3171 a3172 a3173 a3174, b6 g3163 A3166 m3167 n3168 a3170, r5 A3166 m3167 n3168 l3165]) w)) (HS : Aside0 (Sep (fps [b7 g3161 g3163 a3171 a3172 a3173 a3174, b6 g3163 A3166 m3167 n3168 a3170, r5 A3166 m3167 n3168 l3165]) w [b7 g3161 g3163 a3171 a3172 a3173 a3174, b6 g3163 A3166 m3167 n3168 a3170, r5 A3166 m3167 n3168 l3165] w)) (H : Aside0 (tint_Parity.f l3165 a3170 a3171 a3172 a3173 a3174 = some r)) :
    Calls Tryz.prog 15 #[.pointer (some ⟨g3161, 0, none⟩)] w fun e w' => e = .returned (.int .i64 r.1) ∧ Sep (fps [b7 g3161 g3163 a3171 a3172 a3173 a3174, b6 g3163 A3166 m3167 n3168 a3170, r5 A3166 m3167 n3168 l3165]) w [b7 g3161 g3163 a3171 a3172 a3173 a3174, b6 g3163 A3166 m3167 n3168 r.2, r5 A3166 m3167 n3168 l3165] w' := by
  generalize (fps [b7 g3161 g3163 a3171 a3172 a3173 a3174, b6 g3163 A3166 m3167 n3168 a3170, r5 A3166 m3167 n3168 l3165]) = FF at HS HGl0 ⊢
  obtain rfl := (row_len (HS.out.at2)).symm
  unfold tint_Parity.f at H
  go_enter Tryz.func15, Tryz.ntmps15
  go_wp2_with fail
  obtain ⟨t3178, HA3179, H⟩ := bind_some H
  refine (ground_Ground_Reg.calls l3165 a3170 a3171 a3172 a3173 a3174 10 g3161 g3163 A3166 l3165.length n3168 t3178 _ ⟨HGl0.out.pass HS.out⟩ ⟨HS.out.begin⟩ HA3179).mono ?_
  rintro e_ w3180 ⟨rfl, hS⟩
  replace HS : Aside0 (Sep FF w [b7 g3161 g3163 a3171 a3172 a3173 a3174, b6 g3163 A3166 l3165.length n3168 t3178.2, r5 A3166 l3165.length n3168 l3165] w3180) := ⟨HS.out.call hS⟩
  clear hS
  go_wp2_with fail
  go_ret
  rw [← some_eq H]
  exact ⟨(by first | rfl | (simp [IntKind.wrap_u32]; done)), HS.out⟩

set_option maxHeartbeats 30000000 in
set_option maxRecDepth 100000 in
theorem tint_Dye_1.calls (a3186 : Int) (a3187 : Int) (a3188 : Int) (a3189 : Int) (a3190 : Int) (a3191 : Int) (a3192 : Int) (a3193 : Int) (l3201 : List Int) (a3206 : Int) (a3207 : Int) (a3208 : Int) (a3209 : Int) (a3210 : Int) (a3213 : Int) (g3185 : Nat) (g3195 : Nat) (g3197 : Nat) (g3199 : Nat) (A3202 : Option Addr) (m3203 : Nat) (n3204 : Nat) (g3212 : Nat) (r : Int × Int × Int × Int × List Int) (w : World)  (HGl0 : Aside0 (Gl 0 #[.int .i64 0, .int .i64 0, .int .i64 0, .int .i64 0, .int .i64 0] (fps [b16 g3185 a3186 a3187 a3188 a3189 a3190 a3191 a3192, b9 g3195 g3197, b7 g3197 g3199 a3207 a3208 a3209 a3210, b6 g3199 A3202 m3203 n3204 a3206, r5 A3202 m3203 n3204 l3201, b10 g3212 a3213]) w)) (HS : Aside0 (Sep (fps [b16 g3185 a3186 a3187 a3188 a3189 a3190 a3191 a3192, b9 g3195 g3197, b7 g3197 g3199 a3207 a3208 a3209 a3210, b6 g3199 A3202 m3203 n3204 a3206, r5 A3202 m3203 n3204 l3201, b10 g3212 a3213]) w [b16 g3185 a3186 a3187 a3188 a3189 a3190 a3191 a3192, b9 g3195 g3197, b7 g3197 g3199 a3207 a3208 a3209 a3210, b6 g3199 A3202 m3203 n3204 a3206, r5 A3202 m3203 n3204 l3201, b10 g3212 a3213] w)) (H : Aside0 (tint_Dye_1.f a3186 a3187 a3188 a3189 a3190 a3191 a3192 a3193 l3201 a3206 a3207 a3208 a3209 a3210 a3213 = some r)) :
    Calls Tryz.prog 52 #[.pointer (some ⟨g3185, 0, none⟩), .int .i64 a3193, .pointer (some ⟨g3195, 0, none⟩), .pointer (some ⟨g3212, 0, none⟩)] w fun e w' => e = .returned (.tuple #[]) ∧ Sep (fps [b16 g3185 a3186 a3187 a3188 a3189 a3190 a3191 a3192, b9 g3195 g3197, b7 g3197 g3199 a3207 a3208 a3209 a3210, b6 g3199 A3202 m3203 n3204 a3206, r5 A3202 m3203 n3204 l3201, b10 g3212 a3213]) w [b16 g3185 a3186 r.1 r.2.1 r.2.2.1 a3190 a3191 a3192, b9 g3195 g3197, b7 g3197 g3199 a3207 a3208 a3209 a3210, b6 g3199 A3202 m3203 n3204 r.2.2.2.1, r5 A3202 m3203 n3204 r.2.2.2.2, b10 g3212 a3213] w' := by
  generalize (fps [b16 g3185 a3186 a3187 a3188 a3189 a3190 a3191 a3192, b9 g3195 g3197, b7 g3197 g3199 a3207 a3208 a3209 a3210, b6 g3199 A3202 m3203 n3204 a3206, r5 A3202 m3203 n3204 l3201, b10 g3212 a3213]) = FF at HS HGl0 ⊢
  obtain rfl := (row_len (HS.out.at4)).symm
  unfold tint_Dye_1.f at H
  go_enter Tryz.func52, Tryz.ntmps52
  have hc3228 : w.cell? ⟨g3185, 1, none⟩ = some (.int .i64 a3187) := blk_cellv (HS.out.at0) 1 rfl
  have hz3229 : w.frozen? ⟨g3185, 1, none⟩ = false := blk_fz (HS.out.at0) 1
  go_wp2_with (first | ((with_reducible refine gate_store (t := 3) (p := 13) rfl ?_); refine store_event (w1 := (World.setCell w ⟨g3185, 1, none⟩ (.int .i64 a3193))) rfl (t := 3) (p := 13) rfl rfl ?hr ?_; (case hr => first | (go_simp; done) | (go_simp; rfl)); intro w3230 hst; clear hc3228 hz3229; have hq0 : Sep FF w [b16 g3185 a3186 a3193 a3188 a3189 a3190 a3191 a3192, b9 g3195 g3197, b7 g3197 g3199 a3207 a3208 a3209 a3210, b6 g3199 A3202 l3201.length n3204 a3206, r5 A3202 l3201.length n3204 l3201, b10 g3212 a3213] (World.setCell w ⟨g3185, 1, none⟩ (.int .i64 a3193)) := (HS.out).set1 (l1 := []) (l2 := [b9 g3195 g3197, b7 g3197 g3199 a3207 a3208 a3209 a3210, b6 g3199 A3202 l3201.length n3204 a3206, r5 A3202 l3201.length n3204 l3201, b10 g3212 a3213]) 1 (.int .i64 a3193); replace HS : Aside0 (Sep FF w [b16 g3185 a3186 a3193 a3188 a3189 a3190 a3191 a3192, b9 g3195 g3197, b7 g3197 g3199 a3207 a3208 a3209 a3210, b6 g3199 A3202 l3201.length n3204 a3206, r5 A3202 l3201.length n3204 l3201, b10 g3212 a3213] w3230) := ⟨by rw [hst]; exact hq0⟩; clear hq0; clear hst; have hc3231 : w3230.cell? ⟨g3185, 2, none⟩ = some (.int .i64 a3188) := blk_cellv (HS.out.at0) 2 rfl; have hz3232 : w3230.frozen? ⟨g3185, 2, none⟩ = false := blk_fz (HS.out.at0) 2) | ((with_reducible refine gate_store (t := 3) (p := 15) rfl ?_); refine store_event (w1 := (World.setCell w3230 ⟨g3185, 2, none⟩ (.int .i64 a3193))) rfl (t := 3) (p := 15) rfl rfl ?hr ?_; (case hr => first | (go_simp; done) | (go_simp; rfl)); intro w3233 hst; clear hc3231 hz3232; have hq0 : Sep FF w [b16 g3185 a3186 a3193 a3193 a3189 a3190 a3191 a3192, b9 g3195 g3197, b7 g3197 g3199 a3207 a3208 a3209 a3210, b6 g3199 A3202 l3201.length n3204 a3206, r5 A3202 l3201.length n3204 l3201, b10 g3212 a3213] (World.setCell w3230 ⟨g3185, 2, none⟩ (.int .i64 a3193)) := (HS.out).set1 (l1 := []) (l2 := [b9 g3195 g3197, b7 g3197 g3199 a3207 a3208 a3209 a3210, b6 g3199 A3202 l3201.length n3204 a3206, r5 A3202 l3201.length n3204 l3201, b10 g3212 a3213]) 2 (.int .i64 a3193); replace HS : Aside0 (Sep FF w [b16 g3185 a3186 a3193 a3193 a3189 a3190 a3191 a3192, b9 g3195 g3197, b7 g3197 g3199 a3207 a3208 a3209 a3210, b6 g3199 A3202 l3201.length n3204 a3206, r5 A3202 l3201.length n3204 l3201, b10 g3212 a3213] w3233) := ⟨by rw [hst]; exact hq0⟩; clear hq0; clear hst; have hc3234 : w3233.cell? ⟨g3185, 3, none⟩ = some (.int .i64 a3189) := blk_cellv (HS.out.at0) 3 rfl; have hz3235 : w3233.frozen? ⟨g3185, 3, none⟩ = false := blk_fz (HS.out.at0) 3) | ((with_reducible refine gate_store (t := 3) (p := 17) rfl ?_); refine store_event (w1 := (World.setCell w3233 ⟨g3185, 3, none⟩ (.int .i64 a3193))) rfl (t := 3) (p := 17) rfl rfl ?hr ?_; (case hr => first | (go_simp; done) | (go_simp; rfl)); intro w3236 hst; clear hc3234 hz3235; have hq0 : Sep FF w [b16 g3185 a3186 a3193 a3193 a3193 a3190 a3191 a3192, b9 g3195 g3197, b7 g3197 g3199 a3207 a3208 a3209 a3210, b6 g3199 A3202 l3201.length n3204 a3206, r5 A3202 l3201.length n3204 l3201, b10 g3212 a3213] (World.setCell w3233 ⟨g3185, 3, none⟩ (.int .i64 a3193)) := (HS.out).set1 (l1 := []) (l2 := [b9 g3195 g3197, b7 g3197 g3199 a3207 a3208 a3209 a3210, b6 g3199 A3202 l3201.length n3204 a3206, r5 A3202 l3201.length n3204 l3201, b10 g3212 a3213]) 3 (.int .i64 a3193); replace HS : Aside0 (Sep FF w [b16 g3185 a3186 a3193 a3193 a3193 a3190 a3191 a3192, b9 g3195 g3197, b7 g3197 g3199 a3207 a3208 a3209 a3210, b6 g3199 A3202 l3201.length n3204 a3206, r5 A3202 l3201.length n3204 l3201, b10 g3212 a3213] w3236) := ⟨by rw [hst]; exact hq0⟩; clear hq0; clear hst; have hc3237 : w3236.cell? ⟨g3195, 0, none⟩ = some (.pointer (some ⟨g3197, 0, none⟩)) := blk_cellv (HS.out.at1) 0 rfl; have hc3238 : w3236.cell? ⟨g3212, 0, none⟩ = some (.int .i64 a3213) := blk_cellv (HS.out.at5) 0 rfl))
  clear hc3237 hc3238
  replace HS : Aside0 (Sep FF w [r5 A3202 l3201.length n3204 l3201, b16 g3185 a3186 a3193 a3193 a3193 a3190 a3191 a3192, b9 g3195 g3197, b7 g3197 g3199 a3207 a3208 a3209 a3210, b6 g3199 A3202 l3201.length n3204 a3206, b10 g3212 a3213] w3236) := ⟨HS.out.front 4 (by simp)⟩
  replace HS : Aside0 (Sep FF w [b6 g3199 A3202 l3201.length n3204 a3206, r5 A3202 l3201.length n3204 l3201, b16 g3185 a3186 a3193 a3193 a3193 a3190 a3191 a3192, b9 g3195 g3197, b7 g3197 g3199 a3207 a3208 a3209 a3210, b10 g3212 a3213] w3236) := ⟨HS.out.front 4 (by simp)⟩
  replace HS : Aside0 (Sep FF w [b7 g3197 g3199 a3207 a3208 a3209 a3210, b6 g3199 A3202 l3201.length n3204 a3206, r5 A3202 l3201.length n3204 l3201, b16 g3185 a3186 a3193 a3193 a3193 a3190 a3191 a3192, b9 g3195 g3197, b10 g3212 a3213] w3236) := ⟨HS.out.front 4 (by simp)⟩
  obtain ⟨t3239, HA3240, H⟩ := bind_some H
  refine (ground_Ground_SetWord.calls l3201 a3206 a3207 a3208 a3209 a3210 (wrap64 (a3213 - 1)) 4 0 g3197 g3199 A3202 l3201.length n3204 t3239 _ ⟨HGl0.out.pass HS.out⟩ ⟨HS.out.begin⟩ HA3240).mono ?_
  rintro e_ w3241 ⟨rfl, hS⟩
  replace HS : Aside0 (Sep FF w [b7 g3197 g3199 a3207 a3208 a3209 a3210, b6 g3199 A3202 l3201.length n3204 t3239.2.1, r5 A3202 l3201.length n3204 t3239.2.2, b16 g3185 a3186 a3193 a3193 a3193 a3190 a3191 a3192, b9 g3195 g3197, b10 g3212 a3213] w3241) := ⟨HS.out.call hS⟩
  clear hS
  go_wp2_with fail
  first | go_end0 | refine bodyPost_ret (results_none rfl _ _ _) rfl ?_
  rw [← some_eq H]
  exact ⟨rfl, (((((((HS.out).front 5 (by simp)).front 3 (by simp)).front 3 (by simp)).front 3 (by simp)).front 5 (by simp)).front 5 (by simp)).keep (l := [b16 g3185 a3186 a3193 a3193 a3193 a3190 a3191 a3192, b9 g3195 g3197, b7 g3197 g3199 a3207 a3208 a3209 a3210, b6 g3199 A3202 l3201.length n3204 t3239.2.1, r5 A3202 l3201.length n3204 t3239.2.2, b10 g3212 a3213]) (rest := [])⟩

set_option maxHeartbeats 30000000 in
set_option maxRecDepth 100000 in
theorem tint_change_F52.calls (k : Nat) (l2810 : List Int) (a2815 : Int) (a2816 : Int) (a2817 : Int) (a2818 : Int) (a2819 : Int) (a2820 : Int) (a2825 : Int) (g2806 : Nat) (g2808 : Nat) (A2811 : Option Addr) (m2812 : Nat) (n2813 : Nat) (g2822 : Nat) (g2824 : Nat) (r : Bool × Int × List Int) (w : World)  (HGl0 : Aside0 (Gl 0 #[.int .i64 0, .int .i64 0, .int .i64 0, .int .i64 0, .int .i64 0] (fps [b7 g2806 g2808 a2816 a2817 a2818 a2819, b6 g2808 A2811 m2812 n2813 a2815, r5 A2811 m2812 n2813 l2810, b9 g2822 g2806, b10 g2824 a2825]) w)) (HS : Aside0 (Sep (fps [b7 g2806 g2808 a2816 a2817 a2818 a2819, b6 g2808 A2811 m2812 n2813 a2815, r5 A2811 m2812 n2813 l2810, b9 g2822 g2806, b10 g2824 a2825]) w [b7 g2806 g2808 a2816 a2817 a2818 a2819, b6 g2808 A2811 m2812 n2813 a2815, r5 A2811 m2812 n2813 l2810, b9 g2822 g2806, b10 g2824 a2825] w)) (H : Aside0 (tint_change_F52.f k l2810 a2815 a2816 a2817 a2818 a2819 a2820 a2825 = some r)) :
    Calls Tryz.prog 51 #[.pointer (some ⟨g2806, 0, none⟩), .int .i64 a2820, .func (.func 52) #[] #[.pointer (some ⟨g2822, 0, none⟩), .pointer (some ⟨g2824, 0, none⟩)]] w fun e w' => e = .returned (.bool r.1) ∧ Sep (fps [b7 g2806 g2808 a2816 a2817 a2818 a2819, b6 g2808 A2811 m2812 n2813 a2815, r5 A2811 m2812 n2813 l2810, b9 g2822 g2806, b10 g2824 a2825]) w [b7 g2806 g2808 a2816 a2817 a2818 a2819, b6 g2808 A2811 m2812 n2813 r.2.1, r5 A2811 m2812 n2813 r.2.2, b9 g2822 g2806, b10 g2824 a2825] w' := by
  generalize (fps [b7 g2806 g2808 a2816 a2817 a2818 a2819, b6 g2808 A2811 m2812 n2813 a2815, r5 A2811 m2812 n2813 l2810, b9 g2822 g2806, b10 g2824 a2825]) = FF at HS HGl0 ⊢
  obtain rfl := (row_len (HS.out.at2)).symm
  unfold tint_change_F52.f at H
  go_enter Tryz.func51, Tryz.ntmps51
  go_wp2_with fail
  obtain ⟨t3259, HA3260, H⟩ := bind_some H
  refine (tint_of.calls l2810 a2815 a2816 a2817 a2818 a2819 a2820 g2806 g2808 A2811 l2810.length n2813 t3259 _ ⟨HGl0.out.pass HS.out⟩ ⟨HS.out.begin⟩ HA3260).mono ?_
  rintro e_ w3261 ⟨rfl, hS⟩
  replace HS : Aside0 (Sep FF w [b7 g2806 g2808 a2816 a2817 a2818 a2819, b6 g2808 A2811 l2810.length n2813 t3259.2.2.2.2.2.2.2.2, r5 A2811 l2810.length n2813 l2810, b9 g2822 g2806, b10 g2824 a2825] w3261) := ⟨HS.out.call hS⟩
  clear hS
  by_cases c3280 : t3259.2.2.2.2.2.2.2.1 = true
  · replace H := if_yes c3280 H
    have c3280b0 : t3259.2.2.2.2.2.2.2.1 = true := c3280
    have c3280b1 : (!t3259.2.2.2.2.2.2.2.1) = false := by rw [c3280b0]; rfl
    try rw [c3280b1]
    clear c3280
    go_wp2_with (first | ((with_reducible refine gate_dst (N := 7) rfl ?_); refine box_on ?hg (N := 7) ?hd (cs := #[.int .i64 0, .int .i64 0, .int .i64 0, .int .i64 0, .int .i64 0, .int .i64 0, .int .i64 0]) (t := 79) ?hr ?_; (case hd => rfl); (case hg => rfl); (case hr => first | (go_simp; done) | (go_simp; rfl)); intro g3262 hg w3263 hbox hb; replace HS : Aside0 (Sep FF w [b7 g2806 g2808 a2816 a2817 a2818 a2819, b6 g2808 A2811 l2810.length n2813 t3259.2.2.2.2.2.2.2.2, r5 A2811 l2810.length n2813 l2810, b9 g2822 g2806, b10 g2824 a2825, b16 g3262 0 0 0 0 0 0 0] w3263) := ⟨HS.out.box hg hbox hb⟩; clear hg hbox hb; have hc3265 : w3263.cell? ⟨g3262, 0, none⟩ = some (.int .i64 0) := blk_cellv (HS.out.at5) 0 rfl; have hz3266 : w3263.frozen? ⟨g3262, 0, none⟩ = false := blk_fz (HS.out.at5) 0; have hc3267 : w3263.cell? ⟨g3262, 1, none⟩ = some (.int .i64 0) := blk_cellv (HS.out.at5) 1 rfl; have hz3268 : w3263.frozen? ⟨g3262, 1, none⟩ = false := blk_fz (HS.out.at5) 1; have hc3269 : w3263.cell? ⟨g3262, 2, none⟩ = some (.int .i64 0) := blk_cellv (HS.out.at5) 2 rfl; have hz3270 : w3263.frozen? ⟨g3262, 2, none⟩ = false := blk_fz (HS.out.at5) 2; have hc3271 : w3263.cell? ⟨g3262, 3, none⟩ = some (.int .i64 0) := blk_cellv (HS.out.at5) 3 rfl; have hz3272 : w3263.frozen? ⟨g3262, 3, none⟩ = false := blk_fz (HS.out.at5) 3; have hc3273 : w3263.cell? ⟨g3262, 4, none⟩ = some (.int .i64 0) := blk_cellv (HS.out.at5) 4 rfl; have hz3274 : w3263.frozen? ⟨g3262, 4, none⟩ = false := blk_fz (HS.out.at5) 4; have hc3275 : w3263.cell? ⟨g3262, 5, none⟩ = some (.int .i64 0) := blk_cellv (HS.out.at5) 5 rfl; have hz3276 : w3263.frozen? ⟨g3262, 5, none⟩ = false := blk_fz (HS.out.at5) 5; have hc3277 : w3263.cell? ⟨g3262, 6, none⟩ = some (.int .i64 0) := blk_cellv (HS.out.at5) 6 rfl; have hz3278 : w3263.frozen? ⟨g3262, 6, none⟩ = false := blk_fz (HS.out.at5) 6) | ((with_reducible refine gate_store (t := 79) (p := 7) rfl ?_); refine store_event (w1 := (World.setCell (World.setCell (World.setCell (World.setCell (World.setCell (World.setCell (World.setCell w3263 ⟨g3262, 0, none⟩ (.int .i64 t3259.1)) ⟨g3262, 1, none⟩ (.int .i64 t3259.2.1)) ⟨g3262, 2, none⟩ (.int .i64 t3259.2.2.1)) ⟨g3262, 3, none⟩ (.int .i64 t3259.2.2.2.1)) ⟨g3262, 4, none⟩ (.int .i64 t3259.2.2.2.2.1)) ⟨g3262, 5, none⟩ (.int .i64 t3259.2.2.2.2.2.1)) ⟨g3262, 6, none⟩ (.int .i64 t3259.2.2.2.2.2.2.1))) rfl (t := 79) (p := 7) rfl rfl ?hr ?_; (case hr => first | (go_simp; done) | (go_simp; rfl)); intro w3279 hst; clear hc3265 hz3266 hc3267 hz3268 hc3269 hz3270 hc3271 hz3272 hc3273 hz3274 hc3275 hz3276 hc3277 hz3278; replace HS : Aside0 (Sep FF w [b7 g2806 g2808 a2816 a2817 a2818 a2819, b6 g2808 A2811 l2810.length n2813 t3259.2.2.2.2.2.2.2.2, r5 A2811 l2810.length n2813 l2810, b9 g2822 g2806, b10 g2824 a2825, b16 g3262 t3259.1 t3259.2.1 t3259.2.2.1 t3259.2.2.2.1 t3259.2.2.2.2.1 t3259.2.2.2.2.2.1 t3259.2.2.2.2.2.2.1] w3279) := ⟨by rw [hst]; exact HS.out.setAll (l1 := [b7 g2806 g2808 a2816 a2817 a2818 a2819, b6 g2808 A2811 l2810.length n2813 t3259.2.2.2.2.2.2.2.2, r5 A2811 l2810.length n2813 l2810, b9 g2822 g2806, b10 g2824 a2825]) (l2 := []) [.int .i64 t3259.1, .int .i64 t3259.2.1, .int .i64 t3259.2.2.1, .int .i64 t3259.2.2.2.1, .int .i64 t3259.2.2.2.2.1, .int .i64 t3259.2.2.2.2.2.1, .int .i64 t3259.2.2.2.2.2.2.1] rfl⟩; clear hst))
    obtain ⟨t3281, HA3282, H⟩ := bind_some H
    refine (tint_Parity.calls l2810 t3259.2.2.2.2.2.2.2.2 a2816 a2817 a2818 a2819 g2806 g2808 A2811 l2810.length n2813 t3281 _ ⟨HGl0.out.pass HS.out⟩ ⟨HS.out.begin⟩ HA3282).mono ?_
    rintro e_ w3283 ⟨rfl, hS⟩
    replace HS : Aside0 (Sep FF w [b7 g2806 g2808 a2816 a2817 a2818 a2819, b6 g2808 A2811 l2810.length n2813 t3281.2, r5 A2811 l2810.length n2813 l2810, b9 g2822 g2806, b10 g2824 a2825, b16 g3262 t3259.1 t3259.2.1 t3259.2.2.1 t3259.2.2.2.1 t3259.2.2.2.2.1 t3259.2.2.2.2.2.1 t3259.2.2.2.2.2.2.1] w3283) := ⟨HS.out.call hS⟩
    clear hS
    go_wp2_with fail
    replace HS : Aside0 (Sep FF w [b10 g2824 a2825, b7 g2806 g2808 a2816 a2817 a2818 a2819, b6 g2808 A2811 l2810.length n2813 t3281.2, r5 A2811 l2810.length n2813 l2810, b9 g2822 g2806, b16 g3262 t3259.1 t3259.2.1 t3259.2.2.1 t3259.2.2.2.1 t3259.2.2.2.2.1 t3259.2.2.2.2.2.1 t3259.2.2.2.2.2.2.1] w3283) := ⟨HS.out.front 4 (by simp)⟩
    replace HS : Aside0 (Sep FF w [r5 A2811 l2810.length n2813 l2810, b10 g2824 a2825, b7 g2806 g2808 a2816 a2817 a2818 a2819, b6 g2808 A2811 l2810.length n2813 t3281.2, b9 g2822 g2806, b16 g3262 t3259.1 t3259.2.1 t3259.2.2.1 t3259.2.2.2.1 t3259.2.2.2.2.1 t3259.2.2.2.2.2.1 t3259.2.2.2.2.2.2.1] w3283) := ⟨HS.out.front 3 (by simp)⟩
    replace HS : Aside0 (Sep FF w [b6 g2808 A2811 l2810.length n2813 t3281.2, r5 A2811 l2810.length n2813 l2810, b10 g2824 a2825, b7 g2806 g2808 a2816 a2817 a2818 a2819, b9 g2822 g2806, b16 g3262 t3259.1 t3259.2.1 t3259.2.2.1 t3259.2.2.2.1 t3259.2.2.2.2.1 t3259.2.2.2.2.2.1 t3259.2.2.2.2.2.2.1] w3283) := ⟨HS.out.front 3 (by simp)⟩
    replace HS : Aside0 (Sep FF w [b7 g2806 g2808 a2816 a2817 a2818 a2819, b6 g2808 A2811 l2810.length n2813 t3281.2, r5 A2811 l2810.length n2813 l2810, b10 g2824 a2825, b9 g2822 g2806, b16 g3262 t3259.1 t3259.2.1 t3259.2.2.1 t3259.2.2.2.1 t3259.2.2.2.2.1 t3259.2.2.2.2.2.1 t3259.2.2.2.2.2.2.1] w3283) := ⟨HS.out.front 3 (by simp)⟩
    replace HS : Aside0 (Sep FF w [b9 g2822 g2806, b7 g2806 g2808 a2816 a2817 a2818 a2819, b6 g2808 A2811 l2810.length n2813 t3281.2, r5 A2811 l2810.length n2813 l2810, b10 g2824 a2825, b16 g3262 t3259.1 t3259.2.1 t3259.2.2.1 t3259.2.2.2.1 t3259.2.2.2.2.1 t3259.2.2.2.2.2.1 t3259.2.2.2.2.2.2.1] w3283) := ⟨HS.out.front 4 (by simp)⟩
    replace HS : Aside0 (Sep FF w [b16 g3262 t3259.1 t3259.2.1 t3259.2.2.1 t3259.2.2.2.1 t3259.2.2.2.2.1 t3259.2.2.2.2.2.1 t3259.2.2.2.2.2.2.1, b9 g2822 g2806, b7 g2806 g2808 a2816 a2817 a2818 a2819, b6 g2808 A2811 l2810.length n2813 t3281.2, r5 A2811 l2810.length n2813 l2810, b10 g2824 a2825] w3283) := ⟨HS.out.front 5 (by simp)⟩
    obtain ⟨t3284, HA3285, H⟩ := bind_some H
    refine (tint_Dye_1.calls t3259.1 t3259.2.1 t3259.2.2.1 t3259.2.2.2.1 t3259.2.2.2.2.1 t3259.2.2.2.2.2.1 t3259.2.2.2.2.2.2.1 t3281.1 l2810 t3281.2 a2816 a2817 a2818 a2819 a2825 g3262 g2822 g2806 g2808 A2811 l2810.length n2813 g2824 t3284 _ ⟨HGl0.out.pass HS.out⟩ ⟨HS.out.begin⟩ HA3285).mono ?_
    rintro e_ w3286 ⟨rfl, hS⟩
    replace HS : Aside0 (Sep FF w [b16 g3262 t3259.1 t3284.1 t3284.2.1 t3284.2.2.1 t3259.2.2.2.2.1 t3259.2.2.2.2.2.1 t3259.2.2.2.2.2.2.1, b9 g2822 g2806, b7 g2806 g2808 a2816 a2817 a2818 a2819, b6 g2808 A2811 l2810.length n2813 t3284.2.2.2.1, r5 A2811 l2810.length n2813 t3284.2.2.2.2, b10 g2824 a2825] w3286) := ⟨HS.out.call hS⟩
    clear hS
    have hc3287 : w3286.cell? ⟨g3262, 0, none⟩ = some (.int .i64 t3259.1) := blk_cellv (HS.out.at0) 0 rfl
    have hc3288 : w3286.cell? ⟨g3262, 1, none⟩ = some (.int .i64 t3284.1) := blk_cellv (HS.out.at0) 1 rfl
    have hc3289 : w3286.cell? ⟨g3262, 2, none⟩ = some (.int .i64 t3284.2.1) := blk_cellv (HS.out.at0) 2 rfl
    have hc3290 : w3286.cell? ⟨g3262, 3, none⟩ = some (.int .i64 t3284.2.2.1) := blk_cellv (HS.out.at0) 3 rfl
    have hc3291 : w3286.cell? ⟨g3262, 4, none⟩ = some (.int .i64 t3259.2.2.2.2.1) := blk_cellv (HS.out.at0) 4 rfl
    have hc3292 : w3286.cell? ⟨g3262, 5, none⟩ = some (.int .i64 t3259.2.2.2.2.2.1) := blk_cellv (HS.out.at0) 5 rfl
    have hc3293 : w3286.cell? ⟨g3262, 6, none⟩ = some (.int .i64 t3259.2.2.2.2.2.2.1) := blk_cellv (HS.out.at0) 6 rfl
    go_wp2_with fail
    clear hc3287 hc3288 hc3289 hc3290 hc3291 hc3292 hc3293
    obtain ⟨t3294, HA3295, H⟩ := bind_some H
    refine (tag_Pack.calls _ t3259.1 t3284.1 t3284.2.1 t3284.2.2.1 t3259.2.2.2.2.1 t3259.2.2.2.2.2.1 t3259.2.2.2.2.2.2.1 t3294 _ ⟨HGl0.out.pass (l := []) HS.out⟩ ⟨Sep.start _⟩ HA3295).mono ?_
    rintro e_ w3296 ⟨rfl, hS⟩
    replace HS : Aside0 (Sep FF w [b16 g3262 t3259.1 t3284.1 t3284.2.1 t3284.2.2.1 t3259.2.2.2.2.1 t3259.2.2.2.2.2.1 t3259.2.2.2.2.2.2.1, b9 g2822 g2806, b7 g2806 g2808 a2816 a2817 a2818 a2819, b6 g2808 A2811 l2810.length n2813 t3284.2.2.2.1, r5 A2811 l2810.length n2813 t3284.2.2.2.2, b10 g2824 a2825] w3296) := ⟨HS.out.call hS⟩
    clear hS
    by_cases c3297 : t3294.2 = 0
    · replace H := if_yes c3297 H
      have c3297b0 : (t3294.2 == 0) = true := beq_iff_eq.mpr c3297
      have c3297b1 : (t3294.2 != 0) = false := bne_eq_false_iff_eq.mpr c3297
      clear c3297
      replace HS : Aside0 (Sep FF w [b9 g2822 g2806, b7 g2806 g2808 a2816 a2817 a2818 a2819, b6 g2808 A2811 l2810.length n2813 t3284.2.2.2.1, r5 A2811 l2810.length n2813 t3284.2.2.2.2, b10 g2824 a2825] w3296) := ⟨HS.out.sub (.cons _ (.cons_cons _ (.cons_cons _ (.cons_cons _ (.cons_cons _ (.cons_cons _ .slnil))))))⟩
      go_wp2_with fail
      replace HS : Aside0 (Sep FF w [r5 A2811 l2810.length n2813 t3284.2.2.2.2, b9 g2822 g2806, b7 g2806 g2808 a2816 a2817 a2818 a2819, b6 g2808 A2811 l2810.length n2813 t3284.2.2.2.1, b10 g2824 a2825] w3296) := ⟨HS.out.front 3 (by simp)⟩
      replace HS : Aside0 (Sep FF w [b6 g2808 A2811 l2810.length n2813 t3284.2.2.2.1, r5 A2811 l2810.length n2813 t3284.2.2.2.2, b9 g2822 g2806, b7 g2806 g2808 a2816 a2817 a2818 a2819, b10 g2824 a2825] w3296) := ⟨HS.out.front 3 (by simp)⟩
      replace HS : Aside0 (Sep FF w [b7 g2806 g2808 a2816 a2817 a2818 a2819, b6 g2808 A2811 l2810.length n2813 t3284.2.2.2.1, r5 A2811 l2810.length n2813 t3284.2.2.2.2, b9 g2822 g2806, b10 g2824 a2825] w3296) := ⟨HS.out.front 3 (by simp)⟩
      obtain ⟨t3298, HA3299, H⟩ := bind_some H
      refine (ground_Ground_SetWord.calls t3284.2.2.2.2 t3284.2.2.2.1 a2816 a2817 a2818 a2819 (wrap64 (a2820 - 1)) 0 t3294.1 g2806 g2808 A2811 l2810.length n2813 t3298 _ ⟨HGl0.out.pass HS.out⟩ ⟨HS.out.begin⟩ HA3299).mono ?_
      rintro e_ w3300 ⟨rfl, hS⟩
      replace HS : Aside0 (Sep FF w [b7 g2806 g2808 a2816 a2817 a2818 a2819, b6 g2808 A2811 l2810.length n2813 t3298.2.1, r5 A2811 l2810.length n2813 t3298.2.2, b9 g2822 g2806, b10 g2824 a2825] w3300) := ⟨HS.out.call hS⟩
      clear hS
      go_wp2_with fail
      go_ret
      rw [← some_eq H]
      exact ⟨(by first | rfl | (simp [IntKind.wrap_u32]; done)), HS.out⟩
    · replace H := if_no c3297 H
      have c3297b0 : (t3294.2 == 0) = false := beq_eq_false_iff_ne.mpr c3297
      have c3297b1 : (t3294.2 != 0) = true := bne_iff_ne.mpr c3297
      clear c3297
      replace HS : Aside0 (Sep FF w [b9 g2822 g2806, b7 g2806 g2808 a2816 a2817 a2818 a2819, b6 g2808 A2811 l2810.length n2813 t3284.2.2.2.1, r5 A2811 l2810.length n2813 t3284.2.2.2.2, b10 g2824 a2825] w3296) := ⟨HS.out.sub (.cons _ (.cons_cons _ (.cons_cons _ (.cons_cons _ (.cons_cons _ (.cons_cons _ .slnil))))))⟩
      go_wp2_with fail
      go_ret
      rw [← some_eq H]
      exact ⟨(by first | rfl | (simp [IntKind.wrap_u32]; done)), ((((((HS.out).front 4 (by simp)).front 1 (by simp)).front 4 (by simp)).front 4 (by simp)).front 4 (by simp)).keep (l := [b7 g2806 g2808 a2816 a2817 a2818 a2819, b6 g2808 A2811 l2810.length n2813 t3284.2.2.2.1, r5 A2811 l2810.length n2813 t3284.2.2.2.2, b9 g2822 g2806, b10 g2824 a2825]) (rest := [])⟩
  · replace H := if_no c3280 H
    have c3280b0 : t3259.2.2.2.2.2.2.2.1 = false := by simpa using c3280
    have c3280b1 : (!t3259.2.2.2.2.2.2.2.1) = true := by rw [c3280b0]; rfl
    try rw [c3280b1]
    clear c3280
    go_wp2_with (first | ((with_reducible refine gate_dst (N := 7) rfl ?_); refine box_on ?hg (N := 7) ?hd (cs := #[.int .i64 0, .int .i64 0, .int .i64 0, .int .i64 0, .int .i64 0, .int .i64 0, .int .i64 0]) (t := 79) ?hr ?_; (case hd => rfl); (case hg => rfl); (case hr => first | (go_simp; done) | (go_simp; rfl)); intro g3262 hg w3263 hbox hb; replace HS : Aside0 (Sep FF w [b7 g2806 g2808 a2816 a2817 a2818 a2819, b6 g2808 A2811 l2810.length n2813 t3259.2.2.2.2.2.2.2.2, r5 A2811 l2810.length n2813 l2810, b9 g2822 g2806, b10 g2824 a2825, b16 g3262 0 0 0 0 0 0 0] w3263) := ⟨HS.out.box hg hbox hb⟩; clear hg hbox hb; have hc3265 : w3263.cell? ⟨g3262, 0, none⟩ = some (.int .i64 0) := blk_cellv (HS.out.at5) 0 rfl; have hz3266 : w3263.frozen? ⟨g3262, 0, none⟩ = false := blk_fz (HS.out.at5) 0; have hc3267 : w3263.cell? ⟨g3262, 1, none⟩ = some (.int .i64 0) := blk_cellv (HS.out.at5) 1 rfl; have hz3268 : w3263.frozen? ⟨g3262, 1, none⟩ = false := blk_fz (HS.out.at5) 1; have hc3269 : w3263.cell? ⟨g3262, 2, none⟩ = some (.int .i64 0) := blk_cellv (HS.out.at5) 2 rfl; have hz3270 : w3263.frozen? ⟨g3262, 2, none⟩ = false := blk_fz (HS.out.at5) 2; have hc3271 : w3263.cell? ⟨g3262, 3, none⟩ = some (.int .i64 0) := blk_cellv (HS.out.at5) 3 rfl; have hz3272 : w3263.frozen? ⟨g3262, 3, none⟩ = false := blk_fz (HS.out.at5) 3; have hc3273 : w3263.cell? ⟨g3262, 4, none⟩ = some (.int .i64 0) := blk_cellv (HS.out.at5) 4 rfl; have hz3274 : w3263.frozen? ⟨g3262, 4, none⟩ = false := blk_fz (HS.out.at5) 4; have hc3275 : w3263.cell? ⟨g3262, 5, none⟩ = some (.int .i64 0) := blk_cellv (HS.out.at5) 5 rfl; have hz3276 : w3263.frozen? ⟨g3262, 5, none⟩ = false := blk_fz (HS.out.at5) 5; have hc3277 : w3263.cell? ⟨g3262, 6, none⟩ = some (.int .i64 0) := blk_cellv (HS.out.at5) 6 rfl; have hz3278 : w3263.frozen? ⟨g3262, 6, none⟩ = false := blk_fz (HS.out.at5) 6) | ((with_reducible refine gate_store (t := 79) (p := 7) rfl ?_); refine store_event (w1 := (World.setCell (World.setCell (World.setCell (World.setCell (World.setCell (World.setCell (World.setCell w3263 ⟨g3262, 0, none⟩ (.int .i64 t3259.1)) ⟨g3262, 1, none⟩ (.int .i64 t3259.2.1)) ⟨g3262, 2, none⟩ (.int .i64 t3259.2.2.1)) ⟨g3262, 3, none⟩ (.int .i64 t3259.2.2.2.1)) ⟨g3262, 4, none⟩ (.int .i64 t3259.2.2.2.2.1)) ⟨g3262, 5, none⟩ (.int .i64 t3259.2.2.2.2.2.1)) ⟨g3262, 6, none⟩ (.int .i64 t3259.2.2.2.2.2.2.1))) rfl (t := 79) (p := 7) rfl rfl ?hr ?_; (case hr => first | (go_simp; done) | (go_simp; rfl)); intro w3279 hst; clear hc3265 hz3266 hc3267 hz3268 hc3269 hz3270 hc3271 hz3272 hc3273 hz3274 hc3275 hz3276 hc3277 hz3278; replace HS : Aside0 (Sep FF w [b7 g2806 g2808 a2816 a2817 a2818 a2819, b6 g2808 A2811 l2810.length n2813 t3259.2.2.2.2.2.2.2.2, r5 A2811 l2810.length n2813 l2810, b9 g2822 g2806, b10 g2824 a2825, b16 g3262 t3259.1 t3259.2.1 t3259.2.2.1 t3259.2.2.2.1 t3259.2.2.2.2.1 t3259.2.2.2.2.2.1 t3259.2.2.2.2.2.2.1] w3279) := ⟨by rw [hst]; exact HS.out.setAll (l1 := [b7 g2806 g2808 a2816 a2817 a2818 a2819, b6 g2808 A2811 l2810.length n2813 t3259.2.2.2.2.2.2.2.2, r5 A2811 l2810.length n2813 l2810, b9 g2822 g2806, b10 g2824 a2825]) (l2 := []) [.int .i64 t3259.1, .int .i64 t3259.2.1, .int .i64 t3259.2.2.1, .int .i64 t3259.2.2.2.1, .int .i64 t3259.2.2.2.2.1, .int .i64 t3259.2.2.2.2.2.1, .int .i64 t3259.2.2.2.2.2.2.1] rfl⟩; clear hst; replace HS : Aside0 (Sep FF w [b7 g2806 g2808 a2816 a2817 a2818 a2819, b6 g2808 A2811 l2810.length n2813 t3259.2.2.2.2.2.2.2.2, r5 A2811 l2810.length n2813 l2810, b9 g2822 g2806, b10 g2824 a2825] w3279) := ⟨HS.out.sub (.cons_cons _ (.cons_cons _ (.cons_cons _ (.cons_cons _ (.cons_cons _ (.cons _ .slnil))))))⟩))
    go_ret
    rw [← some_eq H]
    exact ⟨(by first | rfl | (simp [IntKind.wrap_u32]; done)), HS.out⟩

set_option maxHeartbeats 30000000 in
set_option maxRecDepth 100000 in
theorem tint_Dye.calls (k : Nat) (l2786 : List Int) (a2791 : Int) (a2792 : Int) (a2793 : Int) (a2794 : Int) (a2795 : Int) (a2796 : Int) (g2782 : Nat) (g2784 : Nat) (A2787 : Option Addr) (m2788 : Nat) (n2789 : Nat) (r : Bool × Int × List Int) (w : World)  (HGl0 : Aside0 (Gl 0 #[.int .i64 0, .int .i64 0, .int .i64 0, .int .i64 0, .int .i64 0] (fps [b7 g2782 g2784 a2792 a2793 a2794 a2795, b6 g2784 A2787 m2788 n2789 a2791, r5 A2787 m2788 n2789 l2786]) w)) (HS : Aside0 (Sep (fps [b7 g2782 g2784 a2792 a2793 a2794 a2795, b6 g2784 A2787 m2788 n2789 a2791, r5 A2787 m2788 n2789 l2786]) w [b7 g2782 g2784 a2792 a2793 a2794 a2795, b6 g2784 A2787 m2788 n2789 a2791, r5 A2787 m2788 n2789 l2786] w)) (H : Aside0 (tint_Dye.f k l2786 a2791 a2792 a2793 a2794 a2795 a2796 = some r)) :
    Calls Tryz.prog 12 #[.pointer (some ⟨g2782, 0, none⟩), .int .i64 a2796] w fun e w' => e = .returned (.bool r.1) ∧ Sep (fps [b7 g2782 g2784 a2792 a2793 a2794 a2795, b6 g2784 A2787 m2788 n2789 a2791, r5 A2787 m2788 n2789 l2786]) w [b7 g2782 g2784 a2792 a2793 a2794 a2795, b6 g2784 A2787 m2788 n2789 r.2.1, r5 A2787 m2788 n2789 r.2.2] w' := by
  generalize (fps [b7 g2782 g2784 a2792 a2793 a2794 a2795, b6 g2784 A2787 m2788 n2789 a2791, r5 A2787 m2788 n2789 l2786]) = FF at HS HGl0 ⊢
  obtain rfl := (row_len (HS.out.at2)).symm
  unfold tint_Dye.f at H
  go_enter Tryz.func12, Tryz.ntmps12
  go_wp2_with (first | ((with_reducible refine gate_dst (N := 2) rfl ?_); refine box_on ?hg (N := 2) ?hd (cs := #[.pointer (some ⟨g2782, 0, none⟩)]) (t := 24) ?hr ?_; (case hd => rfl); (case hg => rfl); (case hr => first | (go_simp; done) | (go_simp; rfl)); intro g3304 hg w3305 hbox hb; replace HS : Aside0 (Sep FF w [b7 g2782 g2784 a2792 a2793 a2794 a2795, b6 g2784 A2787 l2786.length n2789 a2791, r5 A2787 l2786.length n2789 l2786, b9 g3304 g2782] w3305) := ⟨HS.out.box hg hbox hb⟩; clear hg hbox hb) | ((with_reducible refine gate_dst (N := 3) rfl ?_); refine box_on ?hg (N := 3) ?hd (cs := #[.int .i64 a2796]) (t := 3) ?hr ?_; (case hd => rfl); (case hg => rfl); (case hr => first | (go_simp; done) | (go_simp; rfl)); intro g3307 hg w3308 hbox hb; replace HS : Aside0 (Sep FF w [b7 g2782 g2784 a2792 a2793 a2794 a2795, b6 g2784 A2787 l2786.length n2789 a2791, r5 A2787 l2786.length n2789 l2786, b9 g3304 g2782, b10 g3307 a2796] w3308) := ⟨HS.out.box hg hbox hb⟩; clear hg hbox hb; have hc3310 : w3308.cell? ⟨g3304, 0, none⟩ = some (.pointer (some ⟨g2782, 0, none⟩)) := blk_cellv (HS.out.at3) 0 rfl; have hc3311 : w3308.cell? ⟨g3307, 0, none⟩ = some (.int .i64 a2796) := blk_cellv (HS.out.at4) 0 rfl))
  clear hc3310 hc3311
  obtain ⟨t3312, HA3313, H⟩ := bind_some H
  refine (tint_change_F52.calls _ l2786 a2791 a2792 a2793 a2794 a2795 a2796 a2796 g2782 g2784 A2787 l2786.length n2789 g3304 g3307 t3312 _ ⟨HGl0.out.pass HS.out⟩ ⟨HS.out.begin⟩ HA3313).mono ?_
  rintro e_ w3314 ⟨rfl, hS⟩
  replace HS : Aside0 (Sep FF w [b7 g2782 g2784 a2792 a2793 a2794 a2795, b6 g2784 A2787 l2786.length n2789 t3312.2.1, r5 A2787 l2786.length n2789 t3312.2.2, b9 g3304 g2782, b10 g3307 a2796] w3314) := ⟨HS.out.call hS⟩
  clear hS
  replace HS : Aside0 (Sep FF w [b7 g2782 g2784 a2792 a2793 a2794 a2795, b6 g2784 A2787 l2786.length n2789 t3312.2.1, r5 A2787 l2786.length n2789 t3312.2.2] w3314) := ⟨HS.out.sub (.cons_cons _ (.cons_cons _ (.cons_cons _ (.cons _ (.cons _ .slnil)))))⟩
  go_wp2_with fail
  go_ret
  rw [← some_eq H]
  exact ⟨(by first | rfl | (simp [IntKind.wrap_u32]; done)), HS.out⟩

set_option maxHeartbeats 30000000 in
set_option maxRecDepth 100000 in
theorem tint_Black.calls (l3324 : List Int) (a3329 : Int) (a3330 : Int) (a3331 : Int) (a3332 : Int) (a3333 : Int) (a3334 : Int) (g3320 : Nat) (g3322 : Nat) (A3325 : Option Addr) (m3326 : Nat) (n3327 : Nat) (r : Bool × Int) (w : World)  (HGl0 : Aside0 (Gl 0 #[.int .i64 0, .int .i64 0, .int .i64 0, .int .i64 0, .int .i64 0] (fps [b7 g3320 g3322 a3330 a3331 a3332 a3333, b6 g3322 A3325 m3326 n3327 a3329, r5 A3325 m3326 n3327 l3324]) w)) (HS : Aside0 (Sep (fps [b7 g3320 g3322 a3330 a3331 a3332 a3333, b6 g3322 A3325 m3326 n3327 a3329, r5 A3325 m3326 n3327 l3324]) w [b7 g3320 g3322 a3330 a3331 a3332 a3333, b6 g3322 A3325 m3326 n3327 a3329, r5 A3325 m3326 n3327 l3324] w)) (H : Aside0 (tint_Black.f l3324 a3329 a3330 a3331 a3332 a3333 a3334 = some r)) :
    Calls Tryz.prog 16 #[.pointer (some ⟨g3320, 0, none⟩), .int .i64 a3334] w fun e w' => e = .returned (.bool r.1) ∧ Sep (fps [b7 g3320 g3322 a3330 a3331 a3332 a3333, b6 g3322 A3325 m3326 n3327 a3329, r5 A3325 m3326 n3327 l3324]) w [b7 g3320 g3322 a3330 a3331 a3332 a3333, b6 g3322 A3325 m3326 n3327 r.2, r5 A3325 m3326 n3327 l3324] w' := by
  generalize (fps [b7 g3320 g3322 a3330 a3331 a3332 a3333, b6 g3322 A3325 m3326 n3327 a3329, r5 A3325 m3326 n3327 l3324]) = FF at HS HGl0 ⊢
  obtain rfl := (row_len (HS.out.at2)).symm
  unfold tint_Black.f at H
  go_enter Tryz.func16, Tryz.ntmps16
  go_wp2_with fail
  obtain ⟨t3362, HA3363, H⟩ := bind_some H
  refine (tint_of.calls l3324 a3329 a3330 a3331 a3332 a3333 a3334 g3320 g3322 A3325 l3324.length n3327 t3362 _ ⟨HGl0.out.pass HS.out⟩ ⟨HS.out.begin⟩ HA3363).mono ?_
  rintro e_ w3364 ⟨rfl, hS⟩
  replace HS : Aside0 (Sep FF w [b7 g3320 g3322 a3330 a3331 a3332 a3333, b6 g3322 A3325 l3324.length n3327 t3362.2.2.2.2.2.2.2.2, r5 A3325 l3324.length n3327 l3324] w3364) := ⟨HS.out.call hS⟩
  clear hS
  go_wp2_with (first | ((with_reducible refine gate_dst (N := 5) rfl ?_); refine box_on ?hg (N := 5) ?hd (cs := #[.int .i64 0, .int .i64 0, .int .i64 0, .int .i64 0, .int .i64 0, .int .i64 0, .int .i64 0]) (t := 79) ?hr ?_; (case hd => rfl); (case hg => rfl); (case hr => first | (go_simp; done) | (go_simp; rfl)); intro g3365 hg w3366 hbox hb; replace HS : Aside0 (Sep FF w [b7 g3320 g3322 a3330 a3331 a3332 a3333, b6 g3322 A3325 l3324.length n3327 t3362.2.2.2.2.2.2.2.2, r5 A3325 l3324.length n3327 l3324, b16 g3365 0 0 0 0 0 0 0] w3366) := ⟨HS.out.box hg hbox hb⟩; clear hg hbox hb; have hc3368 : w3366.cell? ⟨g3365, 0, none⟩ = some (.int .i64 0) := blk_cellv (HS.out.at3) 0 rfl; have hz3369 : w3366.frozen? ⟨g3365, 0, none⟩ = false := blk_fz (HS.out.at3) 0; have hc3370 : w3366.cell? ⟨g3365, 1, none⟩ = some (.int .i64 0) := blk_cellv (HS.out.at3) 1 rfl; have hz3371 : w3366.frozen? ⟨g3365, 1, none⟩ = false := blk_fz (HS.out.at3) 1; have hc3372 : w3366.cell? ⟨g3365, 2, none⟩ = some (.int .i64 0) := blk_cellv (HS.out.at3) 2 rfl; have hz3373 : w3366.frozen? ⟨g3365, 2, none⟩ = false := blk_fz (HS.out.at3) 2; have hc3374 : w3366.cell? ⟨g3365, 3, none⟩ = some (.int .i64 0) := blk_cellv (HS.out.at3) 3 rfl; have hz3375 : w3366.frozen? ⟨g3365, 3, none⟩ = false := blk_fz (HS.out.at3) 3; have hc3376 : w3366.cell? ⟨g3365, 4, none⟩ = some (.int .i64 0) := blk_cellv (HS.out.at3) 4 rfl; have hz3377 : w3366.frozen? ⟨g3365, 4, none⟩ = false := blk_fz (HS.out.at3) 4; have hc3378 : w3366.cell? ⟨g3365, 5, none⟩ = some (.int .i64 0) := blk_cellv (HS.out.at3) 5 rfl; have hz3379 : w3366.frozen? ⟨g3365, 5, none⟩ = false := blk_fz (HS.out.at3) 5; have hc3380 : w3366.cell? ⟨g3365, 6, none⟩ = some (.int .i64 0) := blk_cellv (HS.out.at3) 6 rfl; have hz3381 : w3366.frozen? ⟨g3365, 6, none⟩ = false := blk_fz (HS.out.at3) 6) | ((with_reducible refine gate_store (t := 79) (p := 5) rfl ?_); refine store_event (w1 := (World.setCell (World.setCell (World.setCell (World.setCell (World.setCell (World.setCell (World.setCell w3366 ⟨g3365, 0, none⟩ (.int .i64 t3362.1)) ⟨g3365, 1, none⟩ (.int .i64 t3362.2.1)) ⟨g3365, 2, none⟩ (.int .i64 t3362.2.2.1)) ⟨g3365, 3, none⟩ (.int .i64 t3362.2.2.2.1)) ⟨g3365, 4, none⟩ (.int .i64 t3362.2.2.2.2.1)) ⟨g3365, 5, none⟩ (.int .i64 t3362.2.2.2.2.2.1)) ⟨g3365, 6, none⟩ (.int .i64 t3362.2.2.2.2.2.2.1))) rfl (t := 79) (p := 5) rfl rfl ?hr ?_; (case hr => first | (go_simp; done) | (go_simp; rfl)); intro w3382 hst; clear hc3368 hz3369 hc3370 hz3371 hc3372 hz3373 hc3374 hz3375 hc3376 hz3377 hc3378 hz3379 hc3380 hz3381; replace HS : Aside0 (Sep FF w [b7 g3320 g3322 a3330 a3331 a3332 a3333, b6 g3322 A3325 l3324.length n3327 t3362.2.2.2.2.2.2.2.2, r5 A3325 l3324.length n3327 l3324, b16 g3365 t3362.1 t3362.2.1 t3362.2.2.1 t3362.2.2.2.1 t3362.2.2.2.2.1 t3362.2.2.2.2.2.1 t3362.2.2.2.2.2.2.1] w3382) := ⟨by rw [hst]; exact HS.out.setAll (l1 := [b7 g3320 g3322 a3330 a3331 a3332 a3333, b6 g3322 A3325 l3324.length n3327 t3362.2.2.2.2.2.2.2.2, r5 A3325 l3324.length n3327 l3324]) (l2 := []) [.int .i64 t3362.1, .int .i64 t3362.2.1, .int .i64 t3362.2.2.1, .int .i64 t3362.2.2.2.1, .int .i64 t3362.2.2.2.2.1, .int .i64 t3362.2.2.2.2.2.1, .int .i64 t3362.2.2.2.2.2.2.1] rfl⟩; clear hst))
  refine start_ (n := 9) (S := (fun w' => w'.cell? ⟨g3365, 1, none⟩ = some (.int .i64 t3362.2.1))) (ds := []) #[false, false, false, false, false, false, false, false, false] (by kernel_rfl) rfl rfl (blk_cellv ((HS.out.drew).at3) 1 rfl) (fun hHeld => ?_)
  have HS_ := Aside0.mk HS.out.drew
  clear HS
  generalize World.drew _ = w3384 at HS_ hHeld ⊢
  have HS := HS_
  clear HS_
  refine pure_ (i := 0) (N := some 13) (v := ?_) (a' := ?_) #[true, false, false, false, false, false, false, false, false] rfl rfl (by kernel_rfl) (fun _ _ _ h => h) (Or.inl ⟨by rfl, ?_⟩) ?_ ?_
  rotate_left
  · intro w'
    go_simp
    with_reducible rfl
  rotate_left
  · simp only [Act.put, List.setIfInBounds_toArray, List.set_cons_zero, List.set_cons_succ, i64_w, i32_w]
    rfl
  refine pure_ (i := 1) (N := some 14) (v := ?_) (a' := ?_) #[true, true, false, false, false, false, false, false, false] rfl rfl (by kernel_rfl) (fun _ _ _ h => h) (Or.inl ⟨by rfl, ?_⟩) ?_ ?_
  rotate_left
  · intro w'
    go_simp
    with_reducible rfl
  rotate_left
  · simp only [Act.put, List.setIfInBounds_toArray, List.set_cons_zero, List.set_cons_succ, i64_w, i32_w]
    rfl
  by_cases c3385 : t3362.2.2.2.2.2.2.2.1 = true
  · replace H := if_yes c3385 H
    have c3385b0 : t3362.2.2.2.2.2.2.2.1 = true := c3385
    have c3385b1 : (!t3362.2.2.2.2.2.2.2.1) = false := by rw [c3385b0]; rfl
    clear c3385
    try simp only [c3385b0, Bool.not_true, Bool.not_false]
    refine pure_ (i := 2) (N := some 15) (v := ?_) (a' := ?_) #[true, true, true, false, false, false, false, false, false] rfl rfl (by kernel_rfl) (fun _ _ _ h => h) (Or.inl ⟨by rfl, ?_⟩) ?_ ?_
    rotate_left
    · intro w'
      go_simp
      with_reducible rfl
    rotate_left
    · simp only [Act.put, List.setIfInBounds_toArray, List.set_cons_zero, List.set_cons_succ, i64_w, i32_w]
      rfl
    try simp only [c3385b0, Bool.not_true, Bool.not_false]
    refine pure_ (i := 4) (N := some 17) (v := ?_) (a' := ?_) #[true, true, true, false, true, false, false, false, false] rfl rfl (by kernel_rfl) (fun _ _ _ h => h) (Or.inl ⟨by rfl, ?_⟩) ?_ ?_
    rotate_left
    · intro w'
      go_simp
      with_reducible rfl
    rotate_left
    · simp only [Act.put, List.setIfInBounds_toArray, List.set_cons_zero, List.set_cons_succ, i64_w, i32_w]
      rfl
    try simp only [c3385b0, Bool.not_true, Bool.not_false]
    refine take_ (i := 3) (N := some 16) (v := ?_) (a' := ?_) #[true, true, true, true, true, false, false, false, false] rfl rfl (by kernel_rfl) (fun _ _ _ h => h) (Or.inl ⟨by rfl, ?_⟩) hHeld ?_ ?_
    rotate_left
    · rintro w' hS'
      have s0 := hS'
      go_simp
      with_reducible rfl
    rotate_left
    · simp only [Act.put, List.setIfInBounds_toArray, List.set_cons_zero, List.set_cons_succ, i64_w, i32_w]
      rfl
    try simp only [c3385b0, Bool.not_true, Bool.not_false]
    refine one_ (i := 5) (N := some 18) #[true, true, true, true, true, true, false, false, false] rfl rfl (by kernel_rfl) (by decide) (fun K hK => ?_)
    obtain ⟨t3386, HA3387, H⟩ := bind_some H
    refine goes_ Tryz.func15 (by kernel_rfl) rfl #[.pointer (some ⟨g3320, 0, none⟩)] (by rfl) rfl rfl (by (try simp only [List.map_toArray, List.map_cons, List.map_nil]); first | done | rfl) ?_
    refine (tint_Parity.calls l3324 t3362.2.2.2.2.2.2.2.2 a3330 a3331 a3332 a3333 g3320 g3322 A3325 l3324.length n3327 t3386 _ ⟨HGl0.out.pass HS.out⟩ ⟨HS.out.begin⟩ HA3387).mono ?_
    rintro e_ w3388 ⟨rfl, hS⟩
    replace HS : Aside0 (Sep FF w [b7 g3320 g3322 a3330 a3331 a3332 a3333, b6 g3322 A3325 l3324.length n3327 t3386.2, r5 A3325 l3324.length n3327 l3324, b16 g3365 t3362.1 t3362.2.1 t3362.2.2.1 t3362.2.2.2.1 t3362.2.2.2.2.1 t3362.2.2.2.2.2.1 t3362.2.2.2.2.2.2.1] w3388) := ⟨HS.out.call hS⟩
    clear hS
    refine ⟨_, rfl, ?_⟩
    refine hK.out _ _ (blk_cellv (HS.out.at3) 1 rfl) (fun hHeld => ?_)
    clear hK K
    refine norm_ (a' := ?_) ?_ ?_
    rotate_left
    · show Act.put _ (some 18) _ = _
      simp only [Act.put, List.setIfInBounds_toArray, List.set_cons_zero, List.set_cons_succ, i64_w, i32_w]
      rfl
    try simp only [c3385b0, Bool.not_true, Bool.not_false]
    refine pure_ (i := 6) (N := some 19) (v := ?_) (a' := ?_) #[true, true, true, true, true, true, true, false, false] rfl rfl (by kernel_rfl) (fun _ _ _ h => h) (Or.inl ⟨by rfl, ?_⟩) ?_ ?_
    rotate_left
    · intro w'
      go_simp
      with_reducible rfl
    rotate_left
    · simp only [Act.put, List.setIfInBounds_toArray, List.set_cons_zero, List.set_cons_succ, i64_w, i32_w]
      rfl
    refine pure_ (i := 7) (N := some 20) (v := ?_) (a' := ?_) #[true, true, true, true, true, true, true, true, false] rfl rfl (by kernel_rfl) (fun _ _ _ h => h) (Or.inl ⟨by rfl, ?_⟩) ?_ ?_
    rotate_left
    · intro w'
      go_simp
      with_reducible rfl
    rotate_left
    · simp only [Act.put, List.setIfInBounds_toArray, List.set_cons_zero, List.set_cons_succ, i64_w, i32_w]
      rfl
    refine pure_ (i := 8) (N := some 4) (v := ?_) (a' := ?_) #[true, true, true, true, true, true, true, true, true] rfl rfl (by kernel_rfl) (fun _ _ _ h => h) (Or.inl ⟨by rfl, ?_⟩) ?_ ?_
    rotate_left
    · intro w'
      go_simp
      with_reducible rfl
    rotate_left
    · simp only [Act.put, List.setIfInBounds_toArray, List.set_cons_zero, List.set_cons_succ, i64_w, i32_w]
      rfl
    refine done_ (by kernel_rfl) ?_
    replace HS : Aside0 (Sep FF w [b7 g3320 g3322 a3330 a3331 a3332 a3333, b6 g3322 A3325 l3324.length n3327 t3386.2, r5 A3325 l3324.length n3327 l3324] w3388) := ⟨HS.out.sub (.cons_cons _ (.cons_cons _ (.cons_cons _ (.cons _ .slnil))))⟩
    go_wp2_with fail
    go_ret
    rw [← some_eq H]
    exact ⟨(by first | rfl | (simp [IntKind.wrap_u32]; done)), HS.out⟩
  · replace H := if_no c3385 H
    have c3385b0 : t3362.2.2.2.2.2.2.2.1 = false := by simpa using c3385
    have c3385b1 : (!t3362.2.2.2.2.2.2.2.1) = true := by rw [c3385b0]; rfl
    clear c3385
    try simp only [c3385b0, Bool.not_true, Bool.not_false]
    refine pure_ (i := 2) (N := some 15) (v := undef) (a' := ?_) #[true, true, true, false, false, false, false, false, false] rfl rfl (by kernel_rfl) (fun _ _ _ h => h) (Or.inr ⟨by rfl, rfl⟩) ?_ ?_
    rotate_left
    · simp only [Act.put, List.setIfInBounds_toArray, List.set_cons_zero, List.set_cons_succ, i64_w, i32_w]
      rfl
    try simp only [c3385b0, Bool.not_true, Bool.not_false]
    refine pure_ (i := 3) (N := some 16) (v := undef) (a' := ?_) #[true, true, true, true, false, false, false, false, false] rfl rfl (by kernel_rfl) (fun _ _ _ h => h) (Or.inr ⟨by rfl, rfl⟩) ?_ ?_
    rotate_left
    · simp only [Act.put, List.setIfInBounds_toArray, List.set_cons_zero, List.set_cons_succ, i64_w, i32_w]
      rfl
    try simp only [c3385b0, Bool.not_true, Bool.not_false]
    refine pure_ (i := 4) (N := some 17) (v := undef) (a' := ?_) #[true, true, true, true, true, false, false, false, false] rfl rfl (by kernel_rfl) (fun _ _ _ h => h) (Or.inr ⟨by rfl, rfl⟩) ?_ ?_
    rotate_left
    · simp only [Act.put, List.setIfInBounds_toArray, List.set_cons_zero, List.set_cons_succ, i64_w, i32_w]
      rfl
    try simp only [c3385b0, Bool.not_true, Bool.not_false]
    refine pure_ (i := 5) (N := some 18) (v := undef) (a' := ?_) #[true, true, true, true, true, true, false, false, false] rfl rfl (by kernel_rfl) (fun _ _ _ h => h) (Or.inr ⟨by rfl, rfl⟩) ?_ ?_
    rotate_left
    · simp only [Act.put, List.setIfInBounds_toArray, List.set_cons_zero, List.set_cons_succ, i64_w, i32_w]
      rfl
    try simp only [c3385b0, Bool.not_true, Bool.not_false]
    refine pure_ (i := 6) (N := some 19) (v := undef) (a' := ?_) #[true, true, true, true, true, true, true, false, false] rfl rfl (by kernel_rfl) (fun _ _ _ h => h) (Or.inr ⟨by rfl, rfl⟩) ?_ ?_
    rotate_left
    · simp only [Act.put, List.setIfInBounds_toArray, List.set_cons_zero, List.set_cons_succ, i64_w, i32_w]
      rfl
    refine pure_ (i := 7) (N := some 20) (v := ?_) (a' := ?_) #[true, true, true, true, true, true, true, true, false] rfl rfl (by kernel_rfl) (fun _ _ _ h => h) (Or.inl ⟨by rfl, ?_⟩) ?_ ?_
    rotate_left
    · intro w'
      go_simp
      with_reducible rfl
    rotate_left
    · simp only [Act.put, List.setIfInBounds_toArray, List.set_cons_zero, List.set_cons_succ, i64_w, i32_w]
      rfl
    refine pure_ (i := 8) (N := some 4) (v := ?_) (a' := ?_) #[true, true, true, true, true, true, true, true, true] rfl rfl (by kernel_rfl) (fun _ _ _ h => h) (Or.inl ⟨by rfl, ?_⟩) ?_ ?_
    rotate_left
    · intro w'
      go_simp
      with_reducible rfl
    rotate_left
    · simp only [Act.put, List.setIfInBounds_toArray, List.set_cons_zero, List.set_cons_succ, i64_w, i32_w]
      rfl
    refine done_ (by kernel_rfl) ?_
    replace HS : Aside0 (Sep FF w [b7 g3320 g3322 a3330 a3331 a3332 a3333, b6 g3322 A3325 l3324.length n3327 t3362.2.2.2.2.2.2.2.2, r5 A3325 l3324.length n3327 l3324] w3384) := ⟨HS.out.sub (.cons_cons _ (.cons_cons _ (.cons_cons _ (.cons _ .slnil))))⟩
    go_wp2_with fail
    go_ret
    rw [← some_eq H]
    exact ⟨(by first | rfl | (simp [IntKind.wrap_u32]; done)), HS.out⟩

set_option maxHeartbeats 30000000 in
set_option maxRecDepth 100000 in
theorem tint_Turn.calls (l3398 : List Int) (a3403 : Int) (a3404 : Int) (a3405 : Int) (a3406 : Int) (a3407 : Int) (g3394 : Nat) (g3396 : Nat) (A3399 : Option Addr) (m3400 : Nat) (n3401 : Nat) (r : Int × List Int) (w : World)  (HGl0 : Aside0 (Gl 0 #[.int .i64 0, .int .i64 0, .int .i64 0, .int .i64 0, .int .i64 0] (fps [b7 g3394 g3396 a3404 a3405 a3406 a3407, b6 g3396 A3399 m3400 n3401 a3403, r5 A3399 m3400 n3401 l3398]) w)) (HS : Aside0 (Sep (fps [b7 g3394 g3396 a3404 a3405 a3406 a3407, b6 g3396 A3399 m3400 n3401 a3403, r5 A3399 m3400 n3401 l3398]) w [b7 g3394 g3396 a3404 a3405 a3406 a3407, b6 g3396 A3399 m3400 n3401 a3403, r5 A3399 m3400 n3401 l3398] w)) (H : Aside0 (tint_Turn.f l3398 a3403 a3404 a3405 a3406 a3407 = some r)) :
    Calls Tryz.prog 9 #[.pointer (some ⟨g3394, 0, none⟩)] w fun e w' => e = .returned (.tuple #[]) ∧ Sep (fps [b7 g3394 g3396 a3404 a3405 a3406 a3407, b6 g3396 A3399 m3400 n3401 a3403, r5 A3399 m3400 n3401 l3398]) w [b7 g3394 g3396 a3404 a3405 a3406 a3407, b6 g3396 A3399 m3400 n3401 r.1, r5 A3399 m3400 n3401 r.2] w' := by
  generalize (fps [b7 g3394 g3396 a3404 a3405 a3406 a3407, b6 g3396 A3399 m3400 n3401 a3403, r5 A3399 m3400 n3401 l3398]) = FF at HS HGl0 ⊢
  obtain rfl := (row_len (HS.out.at2)).symm
  unfold tint_Turn.f at H
  go_enter Tryz.func9, Tryz.ntmps9
  go_wp2_with fail
  obtain ⟨t3414, HA3415, H⟩ := bind_some H
  refine (ground_Ground_Reg.calls l3398 a3403 a3404 a3405 a3406 a3407 10 g3394 g3396 A3399 l3398.length n3401 t3414 _ ⟨HGl0.out.pass HS.out⟩ ⟨HS.out.begin⟩ HA3415).mono ?_
  rintro e_ w3416 ⟨rfl, hS⟩
  replace HS : Aside0 (Sep FF w [b7 g3394 g3396 a3404 a3405 a3406 a3407, b6 g3396 A3399 l3398.length n3401 t3414.2, r5 A3399 l3398.length n3401 l3398] w3416) := ⟨HS.out.call hS⟩
  clear hS
  go_wp2_with fail
  obtain ⟨t3417, HA3418, H⟩ := bind_some H
  refine (ground_Ground_SetReg.calls l3398 t3414.2 a3404 a3405 a3406 a3407 10 (wrap64 (1 - t3414.1)) g3394 g3396 A3399 l3398.length n3401 t3417 _ ⟨HGl0.out.pass HS.out⟩ ⟨HS.out.begin⟩ HA3418).mono ?_
  rintro e_ w3419 ⟨rfl, hS⟩
  replace HS : Aside0 (Sep FF w [b7 g3394 g3396 a3404 a3405 a3406 a3407, b6 g3396 A3399 l3398.length n3401 t3417.2.1, r5 A3399 l3398.length n3401 t3417.2.2] w3419) := ⟨HS.out.call hS⟩
  clear hS
  go_wp2_with fail
  first | go_end0 | refine bodyPost_ret (results_none rfl _ _ _) rfl ?_
  rw [← some_eq H]
  exact ⟨rfl, HS.out⟩

set_option maxHeartbeats 30000000 in
set_option maxRecDepth 100000 in
theorem tint_Begin.calls (k : Nat) (l3428 : List Int) (a3433 : Int) (a3434 : Int) (a3435 : Int) (a3436 : Int) (a3437 : Int) (a3438 : Int) (g3424 : Nat) (g3426 : Nat) (A3429 : Option Addr) (m3430 : Nat) (n3431 : Nat) (r : Bool × Int × List Int) (w : World)  (HGl0 : Aside0 (Gl 0 #[.int .i64 0, .int .i64 0, .int .i64 0, .int .i64 0, .int .i64 0] (fps [b7 g3424 g3426 a3434 a3435 a3436 a3437, b6 g3426 A3429 m3430 n3431 a3433, r5 A3429 m3430 n3431 l3428]) w)) (HS : Aside0 (Sep (fps [b7 g3424 g3426 a3434 a3435 a3436 a3437, b6 g3426 A3429 m3430 n3431 a3433, r5 A3429 m3430 n3431 l3428]) w [b7 g3424 g3426 a3434 a3435 a3436 a3437, b6 g3426 A3429 m3430 n3431 a3433, r5 A3429 m3430 n3431 l3428] w)) (H : Aside0 (tint_Begin.f k l3428 a3433 a3434 a3435 a3436 a3437 a3438 = some r)) :
    Calls Tryz.prog 10 #[.pointer (some ⟨g3424, 0, none⟩), .int .i64 a3438] w fun e w' => e = .returned (.bool r.1) ∧ Sep (fps [b7 g3424 g3426 a3434 a3435 a3436 a3437, b6 g3426 A3429 m3430 n3431 a3433, r5 A3429 m3430 n3431 l3428]) w [b7 g3424 g3426 a3434 a3435 a3436 a3437, b6 g3426 A3429 m3430 n3431 r.2.1, r5 A3429 m3430 n3431 r.2.2] w' := by
  generalize (fps [b7 g3424 g3426 a3434 a3435 a3436 a3437, b6 g3426 A3429 m3430 n3431 a3433, r5 A3429 m3430 n3431 l3428]) = FF at HS HGl0 ⊢
  obtain rfl := (row_len (HS.out.at2)).symm
  unfold tint_Begin.f at H
  go_enter Tryz.func10, Tryz.ntmps10
  by_cases c3473 : a3438 < 0
  · replace H := if_yes c3473 H
    have c3473b0 : decide (a3438 < 0) = true := decide_eq_true c3473
    clear c3473
    go_wp2_with fail
    go_ret
    rw [← some_eq H]
    exact ⟨(by first | rfl | (simp [IntKind.wrap_u32]; done)), HS.out⟩
  · replace H := if_no c3473 H
    have c3473b0 : decide (a3438 < 0) = false := decide_eq_false c3473
    clear c3473
    by_cases c3474 : a3438 > 3
    · replace H := if_yes c3474 H
      have c3474b0 : decide (3 < a3438) = true := decide_eq_true c3474
      clear c3474
      go_wp2_with fail
      go_ret
      rw [← some_eq H]
      exact ⟨(by first | rfl | (simp [IntKind.wrap_u32]; done)), HS.out⟩
    · replace H := if_no c3474 H
      have c3474b0 : decide (3 < a3438) = false := decide_eq_false c3474
      clear c3474
      go_wp2_with fail
      obtain ⟨t3475, HA3476, H⟩ := bind_some H
      refine (ground_Ground_SetReg.calls l3428 a3433 a3434 a3435 a3436 a3437 11 a3438 g3424 g3426 A3429 l3428.length n3431 t3475 _ ⟨HGl0.out.pass HS.out⟩ ⟨HS.out.begin⟩ HA3476).mono ?_
      rintro e_ w3477 ⟨rfl, hS⟩
      replace HS : Aside0 (Sep FF w [b7 g3424 g3426 a3434 a3435 a3436 a3437, b6 g3426 A3429 l3428.length n3431 t3475.2.1, r5 A3429 l3428.length n3431 t3475.2.2] w3477) := ⟨HS.out.call hS⟩
      clear hS
      go_wp2_with (first | ((with_reducible refine gate_dst (N := 20) rfl ?_); refine slice_on (n := 4) ?hg (N := 20) ?hd (cs := #[.int .i64 12, .int .i64 13, .int .i64 14, .int .i64 15]) (t := 3) ?hr ?_; (case hd => rfl); (case hg => rfl); (case hr => first | (go_simp; done) | (go_simp; rfl)); intro g3478 hg w3479 hbox hb; replace HS : Aside0 (Sep FF w [b7 g3424 g3426 a3434 a3435 a3436 a3437, b6 g3426 A3429 l3428.length n3431 t3475.2.1, r5 A3429 l3428.length n3431 t3475.2.2, b21 g3478 12 13 14 15] w3479) := ⟨HS.out.box hg hbox hb⟩; clear hg hbox hb))
      obtain ⟨o3494, AL3495, H⟩ := bind_some H
      go_loopg [22] k (fun kq v22 wc => ∃ (x3498 : Int) (x3499 : List Int) (x3500 : Int), v22 = .int .i64 x3498 ∧ Aside0 (tint_Begin.lo0 kq a3434 a3435 a3436 a3437 x3498 x3499 x3500 = some o3494) ∧ Aside0 (Sep FF w [b7 g3424 g3426 a3434 a3435 a3436 a3437, b6 g3426 A3429 l3428.length n3431 x3500, r5 A3429 l3428.length n3431 x3499, b21 g3478 12 13 14 15] wc))
      case atStart => exact ⟨(0), (t3475.2.2), (t3475.2.1), (by first | rfl | (simp [IntKind.wrap_u32]; done)), AL3495, ⟨HS.out⟩⟩
      case round =>
        clear AL3495 HS
        obtain ⟨x3498, x3499, x3500, rfl, AL3495, HS⟩ := hrel
        obtain ⟨w3496, rfl⟩ : ∃ x : World, x = wr := ⟨_, rfl⟩
        cases gk with
        | zero => exact absurd AL3495.out (by simp [tint_Begin.lo0])
        | succ k3497 =>
          have AL0 := AL3495.out
          rw [tint_Begin.lo0] at AL0
          clear AL3495
          have AL3495 := Aside0.mk AL0
          clear AL0
          by_cases c3501 : x3498 < 4
          · replace AL3495 := if_yes c3501 AL3495
            have c3501b0 : decide (x3498 < 4) = true := decide_eq_true c3501
            clear c3501
            by_cases c3502 : 0 ≤ x3498
            · replace AL3495 := if_yes c3502 AL3495
              have c3502b0 : decide (0 ≤ x3498) = true := decide_eq_true c3502
              have c3502p : (0 ≤ x3498) = True := eq_true c3502
              clear c3502
              have ip3503 : (x3498 < 4) = True := eq_true (of_decide_eq_true c3501b0)
              have hx3504 := C_at_int (C_of_blk (xs := [12, 13, 14, 15]) (HS.out.at3) (by simp)) x3498 (of_decide_eq_true c3502b0) (of_decide_eq_true c3501b0)
              have hx3504p : w3496.cell? ⟨g3478, (x3498).toNat, none⟩ = some (.int .i64 (rd [12, 13, 14, 15] x3498)) := by have h_ := hx3504; rwa [add_plain] at h_
              go_wp2_with fail
              clear hx3504 hx3504p
              obtain ⟨t3491, HA3505, AL3495⟩ := bind_some AL3495
              refine (ground_Ground_SetReg.calls x3499 x3500 a3434 a3435 a3436 a3437 (rd [12, 13, 14, 15] x3498) 0 g3424 g3426 A3429 l3428.length n3431 t3491 _ ⟨HGl0.out.pass HS.out⟩ ⟨HS.out.begin⟩ HA3505).mono ?_
              rintro e_ w3506 ⟨rfl, hS⟩
              replace HS : Aside0 (Sep FF w [b7 g3424 g3426 a3434 a3435 a3436 a3437, b6 g3426 A3429 l3428.length n3431 t3491.2.1, r5 A3429 l3428.length n3431 t3491.2.2, b21 g3478 12 13 14 15] w3506) := ⟨HS.out.call hS⟩
              clear hS
              go_wp2_with fail
              go_roundg k3497
              case measure => exact Nat.lt_succ_self _
              case rel => exact ⟨(wrap64 (x3498 + 1)), (t3491.2.2), (t3491.2.1), (by first | rfl | (simp [IntKind.wrap_u32]; done)), Aside0.mk AL3495.out, ⟨HS.out⟩⟩
            · replace AL3495 := if_no c3502 AL3495
              have c3502b0 : decide (0 ≤ x3498) = false := decide_eq_false c3502
              clear c3502
              exact (none_no AL3495).elim
          · replace AL3495 := if_no c3501 AL3495
            have c3501b0 : decide (x3498 < 4) = false := decide_eq_false c3501
            clear c3501
            have ho := some_eq AL3495
            subst ho
            clear AL3495
            replace HS : Aside0 (Sep FF w [b7 g3424 g3426 a3434 a3435 a3436 a3437, b6 g3426 A3429 l3428.length n3431 x3500, r5 A3429 l3428.length n3431 x3499] w3496) := ⟨HS.out.sub (.cons_cons _ (.cons_cons _ (.cons_cons _ (.cons _ .slnil))))⟩
            go_wp2_with fail
            go_ret
            rw [← some_eq H]
            exact ⟨(by first | rfl | (simp [IntKind.wrap_u32]; done)), HS.out⟩

set_option maxHeartbeats 30000000 in
set_option maxRecDepth 100000 in
theorem tint_Deepen_1.calls (a3588 : Int) (a3589 : Int) (a3590 : Int) (a3591 : Int) (a3592 : Int) (a3593 : Int) (a3594 : Int) (a3595 : Int) (l3603 : List Int) (a3608 : Int) (a3609 : Int) (a3610 : Int) (a3611 : Int) (a3612 : Int) (a3615 : Int) (g3587 : Nat) (g3597 : Nat) (g3599 : Nat) (g3601 : Nat) (A3604 : Option Addr) (m3605 : Nat) (n3606 : Nat) (g3614 : Nat) (r : Int × Int × List Int) (w : World)  (HGl0 : Aside0 (Gl 0 #[.int .i64 0, .int .i64 0, .int .i64 0, .int .i64 0, .int .i64 0] (fps [b16 g3587 a3588 a3589 a3590 a3591 a3592 a3593 a3594, b9 g3597 g3599, b7 g3599 g3601 a3609 a3610 a3611 a3612, b6 g3601 A3604 m3605 n3606 a3608, r5 A3604 m3605 n3606 l3603, b10 g3614 a3615]) w)) (HS : Aside0 (Sep (fps [b16 g3587 a3588 a3589 a3590 a3591 a3592 a3593 a3594, b9 g3597 g3599, b7 g3599 g3601 a3609 a3610 a3611 a3612, b6 g3601 A3604 m3605 n3606 a3608, r5 A3604 m3605 n3606 l3603, b10 g3614 a3615]) w [b16 g3587 a3588 a3589 a3590 a3591 a3592 a3593 a3594, b9 g3597 g3599, b7 g3599 g3601 a3609 a3610 a3611 a3612, b6 g3601 A3604 m3605 n3606 a3608, r5 A3604 m3605 n3606 l3603, b10 g3614 a3615] w)) (H : Aside0 (tint_Deepen_1.f a3588 a3589 a3590 a3591 a3592 a3593 a3594 a3595 l3603 a3608 a3609 a3610 a3611 a3612 a3615 = some r)) :
    Calls Tryz.prog 54 #[.pointer (some ⟨g3587, 0, none⟩), .int .i64 a3595, .pointer (some ⟨g3597, 0, none⟩), .pointer (some ⟨g3614, 0, none⟩)] w fun e w' => e = .returned (.tuple #[]) ∧ Sep (fps [b16 g3587 a3588 a3589 a3590 a3591 a3592 a3593 a3594, b9 g3597 g3599, b7 g3599 g3601 a3609 a3610 a3611 a3612, b6 g3601 A3604 m3605 n3606 a3608, r5 A3604 m3605 n3606 l3603, b10 g3614 a3615]) w [b16 g3587 a3588 a3589 a3590 r.1 a3592 a3593 a3594, b9 g3597 g3599, b7 g3599 g3601 a3609 a3610 a3611 a3612, b6 g3601 A3604 m3605 n3606 r.2.1, r5 A3604 m3605 n3606 r.2.2, b10 g3614 a3615] w' := by
  generalize (fps [b16 g3587 a3588 a3589 a3590 a3591 a3592 a3593 a3594, b9 g3597 g3599, b7 g3599 g3601 a3609 a3610 a3611 a3612, b6 g3601 A3604 m3605 n3606 a3608, r5 A3604 m3605 n3606 l3603, b10 g3614 a3615]) = FF at HS HGl0 ⊢
  obtain rfl := (row_len (HS.out.at4)).symm
  unfold tint_Deepen_1.f at H
  go_enter Tryz.func54, Tryz.ntmps54
  by_cases c3632 : a3591 = a3595
  · replace H := if_yes c3632 H
    have c3632b0 : (a3591 == a3595) = true := beq_iff_eq.mpr c3632
    have c3632b1 : (a3591 != a3595) = false := bne_eq_false_iff_eq.mpr c3632
    clear c3632
    have hc3631 : w.cell? ⟨g3587, 3, none⟩ = some (.int .i64 a3591) := blk_cellv (HS.out.at0) 3 rfl
    have hc3633 : w.cell? ⟨g3597, 0, none⟩ = some (.pointer (some ⟨g3599, 0, none⟩)) := blk_cellv (HS.out.at1) 0 rfl
    have hc3634 : w.cell? ⟨g3614, 0, none⟩ = some (.int .i64 a3615) := blk_cellv (HS.out.at5) 0 rfl
    go_wp2_with fail
    clear hc3631 hc3633 hc3634
    replace HS : Aside0 (Sep FF w [r5 A3604 l3603.length n3606 l3603, b16 g3587 a3588 a3589 a3590 a3591 a3592 a3593 a3594, b9 g3597 g3599, b7 g3599 g3601 a3609 a3610 a3611 a3612, b6 g3601 A3604 l3603.length n3606 a3608, b10 g3614 a3615] w) := ⟨HS.out.front 4 (by simp)⟩
    replace HS : Aside0 (Sep FF w [b6 g3601 A3604 l3603.length n3606 a3608, r5 A3604 l3603.length n3606 l3603, b16 g3587 a3588 a3589 a3590 a3591 a3592 a3593 a3594, b9 g3597 g3599, b7 g3599 g3601 a3609 a3610 a3611 a3612, b10 g3614 a3615] w) := ⟨HS.out.front 4 (by simp)⟩
    replace HS : Aside0 (Sep FF w [b7 g3599 g3601 a3609 a3610 a3611 a3612, b6 g3601 A3604 l3603.length n3606 a3608, r5 A3604 l3603.length n3606 l3603, b16 g3587 a3588 a3589 a3590 a3591 a3592 a3593 a3594, b9 g3597 g3599, b10 g3614 a3615] w) := ⟨HS.out.front 4 (by simp)⟩
    obtain ⟨t3635, HA3636, H⟩ := bind_some H
    refine (ground_Ground_Word.calls l3603 a3608 a3609 a3610 a3611 a3612 (wrap64 (a3615 - 1)) 4 g3599 g3601 A3604 l3603.length n3606 t3635 _ ⟨HGl0.out.pass HS.out⟩ ⟨HS.out.begin⟩ HA3636).mono ?_
    rintro e_ w3637 ⟨rfl, hS⟩
    replace HS : Aside0 (Sep FF w [b7 g3599 g3601 a3609 a3610 a3611 a3612, b6 g3601 A3604 l3603.length n3606 t3635.2, r5 A3604 l3603.length n3606 l3603, b16 g3587 a3588 a3589 a3590 a3591 a3592 a3593 a3594, b9 g3597 g3599, b10 g3614 a3615] w3637) := ⟨HS.out.call hS⟩
    clear hS
    have hc3638 : w3637.cell? ⟨g3587, 3, none⟩ = some (.int .i64 a3591) := blk_cellv (HS.out.at3) 3 rfl
    have hz3639 : w3637.frozen? ⟨g3587, 3, none⟩ = false := blk_fz (HS.out.at3) 3
    go_wp2_with (first | ((with_reducible refine gate_store (t := 3) (p := 20) rfl ?_); refine store_event (w1 := (World.setCell w3637 ⟨g3587, 3, none⟩ (.int .i64 a3595))) rfl (t := 3) (p := 20) rfl rfl ?hr ?_; (case hr => first | (go_simp; done) | (go_simp; rfl)); intro w3640 hst; clear hc3638 hz3639; have hq0 : Sep FF w [b7 g3599 g3601 a3609 a3610 a3611 a3612, b6 g3601 A3604 l3603.length n3606 t3635.2, r5 A3604 l3603.length n3606 l3603, b16 g3587 a3588 a3589 a3590 a3595 a3592 a3593 a3594, b9 g3597 g3599, b10 g3614 a3615] (World.setCell w3637 ⟨g3587, 3, none⟩ (.int .i64 a3595)) := (HS.out).set1 (l1 := [b7 g3599 g3601 a3609 a3610 a3611 a3612, b6 g3601 A3604 l3603.length n3606 t3635.2, r5 A3604 l3603.length n3606 l3603]) (l2 := [b9 g3597 g3599, b10 g3614 a3615]) 3 (.int .i64 a3595); replace HS : Aside0 (Sep FF w [b7 g3599 g3601 a3609 a3610 a3611 a3612, b6 g3601 A3604 l3603.length n3606 t3635.2, r5 A3604 l3603.length n3606 l3603, b16 g3587 a3588 a3589 a3590 a3595 a3592 a3593 a3594, b9 g3597 g3599, b10 g3614 a3615] w3640) := ⟨by rw [hst]; exact hq0⟩; clear hq0; clear hst; have hc3641 : w3640.cell? ⟨g3597, 0, none⟩ = some (.pointer (some ⟨g3599, 0, none⟩)) := blk_cellv (HS.out.at4) 0 rfl; have hc3642 : w3640.cell? ⟨g3614, 0, none⟩ = some (.int .i64 a3615) := blk_cellv (HS.out.at5) 0 rfl))
    clear hc3641 hc3642
    obtain ⟨t3643, HA3644, H⟩ := bind_some H
    refine (ground_Ground_SetWord.calls l3603 t3635.2 a3609 a3610 a3611 a3612 (wrap64 (a3615 - 1)) 4 ((t3635.1 + 1) % 4294967296) g3599 g3601 A3604 l3603.length n3606 t3643 _ ⟨HGl0.out.pass HS.out⟩ ⟨HS.out.begin⟩ HA3644).mono ?_
    rintro e_ w3645 ⟨rfl, hS⟩
    replace HS : Aside0 (Sep FF w [b7 g3599 g3601 a3609 a3610 a3611 a3612, b6 g3601 A3604 l3603.length n3606 t3643.2.1, r5 A3604 l3603.length n3606 t3643.2.2, b16 g3587 a3588 a3589 a3590 a3595 a3592 a3593 a3594, b9 g3597 g3599, b10 g3614 a3615] w3645) := ⟨HS.out.call hS⟩
    clear hS
    go_wp2_with fail
    first | go_end0 | refine bodyPost_ret (results_none rfl _ _ _) rfl ?_
    rw [← some_eq H]
    exact ⟨rfl, (((((((HS.out).front 5 (by simp)).front 3 (by simp)).front 3 (by simp)).front 3 (by simp)).front 5 (by simp)).front 5 (by simp)).keep (l := [b16 g3587 a3588 a3589 a3590 a3595 a3592 a3593 a3594, b9 g3597 g3599, b7 g3599 g3601 a3609 a3610 a3611 a3612, b6 g3601 A3604 l3603.length n3606 t3643.2.1, r5 A3604 l3603.length n3606 t3643.2.2, b10 g3614 a3615]) (rest := [])⟩
  · replace H := if_no c3632 H
    have c3632b0 : (a3591 == a3595) = false := beq_eq_false_iff_ne.mpr c3632
    have c3632b1 : (a3591 != a3595) = true := bne_iff_ne.mpr c3632
    clear c3632
    have hc3631 : w.cell? ⟨g3587, 3, none⟩ = some (.int .i64 a3591) := blk_cellv (HS.out.at0) 3 rfl
    have hz3646 : w.frozen? ⟨g3587, 3, none⟩ = false := blk_fz (HS.out.at0) 3
    go_wp2_with (first | ((with_reducible refine gate_store (t := 3) (p := 20) rfl ?_); refine store_event (w1 := (World.setCell w ⟨g3587, 3, none⟩ (.int .i64 a3595))) rfl (t := 3) (p := 20) rfl rfl ?hr ?_; (case hr => first | (go_simp; done) | (go_simp; rfl)); intro w3647 hst; clear hc3631 hz3646; have hq0 : Sep FF w [b16 g3587 a3588 a3589 a3590 a3595 a3592 a3593 a3594, b9 g3597 g3599, b7 g3599 g3601 a3609 a3610 a3611 a3612, b6 g3601 A3604 l3603.length n3606 a3608, r5 A3604 l3603.length n3606 l3603, b10 g3614 a3615] (World.setCell w ⟨g3587, 3, none⟩ (.int .i64 a3595)) := (HS.out).set1 (l1 := []) (l2 := [b9 g3597 g3599, b7 g3599 g3601 a3609 a3610 a3611 a3612, b6 g3601 A3604 l3603.length n3606 a3608, r5 A3604 l3603.length n3606 l3603, b10 g3614 a3615]) 3 (.int .i64 a3595); replace HS : Aside0 (Sep FF w [b16 g3587 a3588 a3589 a3590 a3595 a3592 a3593 a3594, b9 g3597 g3599, b7 g3599 g3601 a3609 a3610 a3611 a3612, b6 g3601 A3604 l3603.length n3606 a3608, r5 A3604 l3603.length n3606 l3603, b10 g3614 a3615] w3647) := ⟨by rw [hst]; exact hq0⟩; clear hq0; clear hst; have hc3648 : w3647.cell? ⟨g3597, 0, none⟩ = some (.pointer (some ⟨g3599, 0, none⟩)) := blk_cellv (HS.out.at1) 0 rfl; have hc3649 : w3647.cell? ⟨g3614, 0, none⟩ = some (.int .i64 a3615) := blk_cellv (HS.out.at5) 0 rfl))
    clear hc3648 hc3649
    replace HS : Aside0 (Sep FF w [r5 A3604 l3603.length n3606 l3603, b16 g3587 a3588 a3589 a3590 a3595 a3592 a3593 a3594, b9 g3597 g3599, b7 g3599 g3601 a3609 a3610 a3611 a3612, b6 g3601 A3604 l3603.length n3606 a3608, b10 g3614 a3615] w3647) := ⟨HS.out.front 4 (by simp)⟩
    replace HS : Aside0 (Sep FF w [b6 g3601 A3604 l3603.length n3606 a3608, r5 A3604 l3603.length n3606 l3603, b16 g3587 a3588 a3589 a3590 a3595 a3592 a3593 a3594, b9 g3597 g3599, b7 g3599 g3601 a3609 a3610 a3611 a3612, b10 g3614 a3615] w3647) := ⟨HS.out.front 4 (by simp)⟩
    replace HS : Aside0 (Sep FF w [b7 g3599 g3601 a3609 a3610 a3611 a3612, b6 g3601 A3604 l3603.length n3606 a3608, r5 A3604 l3603.length n3606 l3603, b16 g3587 a3588 a3589 a3590 a3595 a3592 a3593 a3594, b9 g3597 g3599, b10 g3614 a3615] w3647) := ⟨HS.out.front 4 (by simp)⟩
    obtain ⟨t3643, HA3650, H⟩ := bind_some H
    refine (ground_Ground_SetWord.calls l3603 a3608 a3609 a3610 a3611 a3612 (wrap64 (a3615 - 1)) 4 1 g3599 g3601 A3604 l3603.length n3606 t3643 _ ⟨HGl0.out.pass HS.out⟩ ⟨HS.out.begin⟩ HA3650).mono ?_
    rintro e_ w3651 ⟨rfl, hS⟩
    replace HS : Aside0 (Sep FF w [b7 g3599 g3601 a3609 a3610 a3611 a3612, b6 g3601 A3604 l3603.length n3606 t3643.2.1, r5 A3604 l3603.length n3606 t3643.2.2, b16 g3587 a3588 a3589 a3590 a3595 a3592 a3593 a3594, b9 g3597 g3599, b10 g3614 a3615] w3651) := ⟨HS.out.call hS⟩
    clear hS
    go_wp2_with fail
    first | go_end0 | refine bodyPost_ret (results_none rfl _ _ _) rfl ?_
    rw [← some_eq H]
    exact ⟨rfl, (((((((HS.out).front 5 (by simp)).front 3 (by simp)).front 3 (by simp)).front 3 (by simp)).front 5 (by simp)).front 5 (by simp)).keep (l := [b16 g3587 a3588 a3589 a3590 a3595 a3592 a3593 a3594, b9 g3597 g3599, b7 g3599 g3601 a3609 a3610 a3611 a3612, b6 g3601 A3604 l3603.length n3606 t3643.2.1, r5 A3604 l3603.length n3606 t3643.2.2, b10 g3614 a3615]) (rest := [])⟩

set_option maxHeartbeats 30000000 in
set_option maxRecDepth 100000 in
theorem tint_change_F54.calls (k : Nat) (l3545 : List Int) (a3550 : Int) (a3551 : Int) (a3552 : Int) (a3553 : Int) (a3554 : Int) (a3555 : Int) (a3560 : Int) (g3541 : Nat) (g3543 : Nat) (A3546 : Option Addr) (m3547 : Nat) (n3548 : Nat) (g3557 : Nat) (g3559 : Nat) (r : Bool × Int × List Int) (w : World)  (HGl0 : Aside0 (Gl 0 #[.int .i64 0, .int .i64 0, .int .i64 0, .int .i64 0, .int .i64 0] (fps [b7 g3541 g3543 a3551 a3552 a3553 a3554, b6 g3543 A3546 m3547 n3548 a3550, r5 A3546 m3547 n3548 l3545, b9 g3557 g3541, b10 g3559 a3560]) w)) (HS : Aside0 (Sep (fps [b7 g3541 g3543 a3551 a3552 a3553 a3554, b6 g3543 A3546 m3547 n3548 a3550, r5 A3546 m3547 n3548 l3545, b9 g3557 g3541, b10 g3559 a3560]) w [b7 g3541 g3543 a3551 a3552 a3553 a3554, b6 g3543 A3546 m3547 n3548 a3550, r5 A3546 m3547 n3548 l3545, b9 g3557 g3541, b10 g3559 a3560] w)) (H : Aside0 (tint_change_F54.f k l3545 a3550 a3551 a3552 a3553 a3554 a3555 a3560 = some r)) :
    Calls Tryz.prog 51 #[.pointer (some ⟨g3541, 0, none⟩), .int .i64 a3555, .func (.func 54) #[] #[.pointer (some ⟨g3557, 0, none⟩), .pointer (some ⟨g3559, 0, none⟩)]] w fun e w' => e = .returned (.bool r.1) ∧ Sep (fps [b7 g3541 g3543 a3551 a3552 a3553 a3554, b6 g3543 A3546 m3547 n3548 a3550, r5 A3546 m3547 n3548 l3545, b9 g3557 g3541, b10 g3559 a3560]) w [b7 g3541 g3543 a3551 a3552 a3553 a3554, b6 g3543 A3546 m3547 n3548 r.2.1, r5 A3546 m3547 n3548 r.2.2, b9 g3557 g3541, b10 g3559 a3560] w' := by
  generalize (fps [b7 g3541 g3543 a3551 a3552 a3553 a3554, b6 g3543 A3546 m3547 n3548 a3550, r5 A3546 m3547 n3548 l3545, b9 g3557 g3541, b10 g3559 a3560]) = FF at HS HGl0 ⊢
  obtain rfl := (row_len (HS.out.at2)).symm
  unfold tint_change_F54.f at H
  go_enter Tryz.func51, Tryz.ntmps51
  go_wp2_with fail
  obtain ⟨t3669, HA3670, H⟩ := bind_some H
  refine (tint_of.calls l3545 a3550 a3551 a3552 a3553 a3554 a3555 g3541 g3543 A3546 l3545.length n3548 t3669 _ ⟨HGl0.out.pass HS.out⟩ ⟨HS.out.begin⟩ HA3670).mono ?_
  rintro e_ w3671 ⟨rfl, hS⟩
  replace HS : Aside0 (Sep FF w [b7 g3541 g3543 a3551 a3552 a3553 a3554, b6 g3543 A3546 l3545.length n3548 t3669.2.2.2.2.2.2.2.2, r5 A3546 l3545.length n3548 l3545, b9 g3557 g3541, b10 g3559 a3560] w3671) := ⟨HS.out.call hS⟩
  clear hS
  by_cases c3690 : t3669.2.2.2.2.2.2.2.1 = true
  · replace H := if_yes c3690 H
    have c3690b0 : t3669.2.2.2.2.2.2.2.1 = true := c3690
    have c3690b1 : (!t3669.2.2.2.2.2.2.2.1) = false := by rw [c3690b0]; rfl
    try rw [c3690b1]
    clear c3690
    go_wp2_with (first | ((with_reducible refine gate_dst (N := 7) rfl ?_); refine box_on ?hg (N := 7) ?hd (cs := #[.int .i64 0, .int .i64 0, .int .i64 0, .int .i64 0, .int .i64 0, .int .i64 0, .int .i64 0]) (t := 79) ?hr ?_; (case hd => rfl); (case hg => rfl); (case hr => first | (go_simp; done) | (go_simp; rfl)); intro g3672 hg w3673 hbox hb; replace HS : Aside0 (Sep FF w [b7 g3541 g3543 a3551 a3552 a3553 a3554, b6 g3543 A3546 l3545.length n3548 t3669.2.2.2.2.2.2.2.2, r5 A3546 l3545.length n3548 l3545, b9 g3557 g3541, b10 g3559 a3560, b16 g3672 0 0 0 0 0 0 0] w3673) := ⟨HS.out.box hg hbox hb⟩; clear hg hbox hb; have hc3675 : w3673.cell? ⟨g3672, 0, none⟩ = some (.int .i64 0) := blk_cellv (HS.out.at5) 0 rfl; have hz3676 : w3673.frozen? ⟨g3672, 0, none⟩ = false := blk_fz (HS.out.at5) 0; have hc3677 : w3673.cell? ⟨g3672, 1, none⟩ = some (.int .i64 0) := blk_cellv (HS.out.at5) 1 rfl; have hz3678 : w3673.frozen? ⟨g3672, 1, none⟩ = false := blk_fz (HS.out.at5) 1; have hc3679 : w3673.cell? ⟨g3672, 2, none⟩ = some (.int .i64 0) := blk_cellv (HS.out.at5) 2 rfl; have hz3680 : w3673.frozen? ⟨g3672, 2, none⟩ = false := blk_fz (HS.out.at5) 2; have hc3681 : w3673.cell? ⟨g3672, 3, none⟩ = some (.int .i64 0) := blk_cellv (HS.out.at5) 3 rfl; have hz3682 : w3673.frozen? ⟨g3672, 3, none⟩ = false := blk_fz (HS.out.at5) 3; have hc3683 : w3673.cell? ⟨g3672, 4, none⟩ = some (.int .i64 0) := blk_cellv (HS.out.at5) 4 rfl; have hz3684 : w3673.frozen? ⟨g3672, 4, none⟩ = false := blk_fz (HS.out.at5) 4; have hc3685 : w3673.cell? ⟨g3672, 5, none⟩ = some (.int .i64 0) := blk_cellv (HS.out.at5) 5 rfl; have hz3686 : w3673.frozen? ⟨g3672, 5, none⟩ = false := blk_fz (HS.out.at5) 5; have hc3687 : w3673.cell? ⟨g3672, 6, none⟩ = some (.int .i64 0) := blk_cellv (HS.out.at5) 6 rfl; have hz3688 : w3673.frozen? ⟨g3672, 6, none⟩ = false := blk_fz (HS.out.at5) 6) | ((with_reducible refine gate_store (t := 79) (p := 7) rfl ?_); refine store_event (w1 := (World.setCell (World.setCell (World.setCell (World.setCell (World.setCell (World.setCell (World.setCell w3673 ⟨g3672, 0, none⟩ (.int .i64 t3669.1)) ⟨g3672, 1, none⟩ (.int .i64 t3669.2.1)) ⟨g3672, 2, none⟩ (.int .i64 t3669.2.2.1)) ⟨g3672, 3, none⟩ (.int .i64 t3669.2.2.2.1)) ⟨g3672, 4, none⟩ (.int .i64 t3669.2.2.2.2.1)) ⟨g3672, 5, none⟩ (.int .i64 t3669.2.2.2.2.2.1)) ⟨g3672, 6, none⟩ (.int .i64 t3669.2.2.2.2.2.2.1))) rfl (t := 79) (p := 7) rfl rfl ?hr ?_; (case hr => first | (go_simp; done) | (go_simp; rfl)); intro w3689 hst; clear hc3675 hz3676 hc3677 hz3678 hc3679 hz3680 hc3681 hz3682 hc3683 hz3684 hc3685 hz3686 hc3687 hz3688; replace HS : Aside0 (Sep FF w [b7 g3541 g3543 a3551 a3552 a3553 a3554, b6 g3543 A3546 l3545.length n3548 t3669.2.2.2.2.2.2.2.2, r5 A3546 l3545.length n3548 l3545, b9 g3557 g3541, b10 g3559 a3560, b16 g3672 t3669.1 t3669.2.1 t3669.2.2.1 t3669.2.2.2.1 t3669.2.2.2.2.1 t3669.2.2.2.2.2.1 t3669.2.2.2.2.2.2.1] w3689) := ⟨by rw [hst]; exact HS.out.setAll (l1 := [b7 g3541 g3543 a3551 a3552 a3553 a3554, b6 g3543 A3546 l3545.length n3548 t3669.2.2.2.2.2.2.2.2, r5 A3546 l3545.length n3548 l3545, b9 g3557 g3541, b10 g3559 a3560]) (l2 := []) [.int .i64 t3669.1, .int .i64 t3669.2.1, .int .i64 t3669.2.2.1, .int .i64 t3669.2.2.2.1, .int .i64 t3669.2.2.2.2.1, .int .i64 t3669.2.2.2.2.2.1, .int .i64 t3669.2.2.2.2.2.2.1] rfl⟩; clear hst))
    obtain ⟨t3691, HA3692, H⟩ := bind_some H
    refine (tint_Parity.calls l3545 t3669.2.2.2.2.2.2.2.2 a3551 a3552 a3553 a3554 g3541 g3543 A3546 l3545.length n3548 t3691 _ ⟨HGl0.out.pass HS.out⟩ ⟨HS.out.begin⟩ HA3692).mono ?_
    rintro e_ w3693 ⟨rfl, hS⟩
    replace HS : Aside0 (Sep FF w [b7 g3541 g3543 a3551 a3552 a3553 a3554, b6 g3543 A3546 l3545.length n3548 t3691.2, r5 A3546 l3545.length n3548 l3545, b9 g3557 g3541, b10 g3559 a3560, b16 g3672 t3669.1 t3669.2.1 t3669.2.2.1 t3669.2.2.2.1 t3669.2.2.2.2.1 t3669.2.2.2.2.2.1 t3669.2.2.2.2.2.2.1] w3693) := ⟨HS.out.call hS⟩
    clear hS
    go_wp2_with fail
    replace HS : Aside0 (Sep FF w [b10 g3559 a3560, b7 g3541 g3543 a3551 a3552 a3553 a3554, b6 g3543 A3546 l3545.length n3548 t3691.2, r5 A3546 l3545.length n3548 l3545, b9 g3557 g3541, b16 g3672 t3669.1 t3669.2.1 t3669.2.2.1 t3669.2.2.2.1 t3669.2.2.2.2.1 t3669.2.2.2.2.2.1 t3669.2.2.2.2.2.2.1] w3693) := ⟨HS.out.front 4 (by simp)⟩
    replace HS : Aside0 (Sep FF w [r5 A3546 l3545.length n3548 l3545, b10 g3559 a3560, b7 g3541 g3543 a3551 a3552 a3553 a3554, b6 g3543 A3546 l3545.length n3548 t3691.2, b9 g3557 g3541, b16 g3672 t3669.1 t3669.2.1 t3669.2.2.1 t3669.2.2.2.1 t3669.2.2.2.2.1 t3669.2.2.2.2.2.1 t3669.2.2.2.2.2.2.1] w3693) := ⟨HS.out.front 3 (by simp)⟩
    replace HS : Aside0 (Sep FF w [b6 g3543 A3546 l3545.length n3548 t3691.2, r5 A3546 l3545.length n3548 l3545, b10 g3559 a3560, b7 g3541 g3543 a3551 a3552 a3553 a3554, b9 g3557 g3541, b16 g3672 t3669.1 t3669.2.1 t3669.2.2.1 t3669.2.2.2.1 t3669.2.2.2.2.1 t3669.2.2.2.2.2.1 t3669.2.2.2.2.2.2.1] w3693) := ⟨HS.out.front 3 (by simp)⟩
    replace HS : Aside0 (Sep FF w [b7 g3541 g3543 a3551 a3552 a3553 a3554, b6 g3543 A3546 l3545.length n3548 t3691.2, r5 A3546 l3545.length n3548 l3545, b10 g3559 a3560, b9 g3557 g3541, b16 g3672 t3669.1 t3669.2.1 t3669.2.2.1 t3669.2.2.2.1 t3669.2.2.2.2.1 t3669.2.2.2.2.2.1 t3669.2.2.2.2.2.2.1] w3693) := ⟨HS.out.front 3 (by simp)⟩
    replace HS : Aside0 (Sep FF w [b9 g3557 g3541, b7 g3541 g3543 a3551 a3552 a3553 a3554, b6 g3543 A3546 l3545.length n3548 t3691.2, r5 A3546 l3545.length n3548 l3545, b10 g3559 a3560, b16 g3672 t3669.1 t3669.2.1 t3669.2.2.1 t3669.2.2.2.1 t3669.2.2.2.2.1 t3669.2.2.2.2.2.1 t3669.2.2.2.2.2.2.1] w3693) := ⟨HS.out.front 4 (by simp)⟩
    replace HS : Aside0 (Sep FF w [b16 g3672 t3669.1 t3669.2.1 t3669.2.2.1 t3669.2.2.2.1 t3669.2.2.2.2.1 t3669.2.2.2.2.2.1 t3669.2.2.2.2.2.2.1, b9 g3557 g3541, b7 g3541 g3543 a3551 a3552 a3553 a3554, b6 g3543 A3546 l3545.length n3548 t3691.2, r5 A3546 l3545.length n3548 l3545, b10 g3559 a3560] w3693) := ⟨HS.out.front 5 (by simp)⟩
    obtain ⟨t3694, HA3695, H⟩ := bind_some H
    refine (tint_Deepen_1.calls t3669.1 t3669.2.1 t3669.2.2.1 t3669.2.2.2.1 t3669.2.2.2.2.1 t3669.2.2.2.2.2.1 t3669.2.2.2.2.2.2.1 t3691.1 l3545 t3691.2 a3551 a3552 a3553 a3554 a3560 g3672 g3557 g3541 g3543 A3546 l3545.length n3548 g3559 t3694 _ ⟨HGl0.out.pass HS.out⟩ ⟨HS.out.begin⟩ HA3695).mono ?_
    rintro e_ w3696 ⟨rfl, hS⟩
    replace HS : Aside0 (Sep FF w [b16 g3672 t3669.1 t3669.2.1 t3669.2.2.1 t3694.1 t3669.2.2.2.2.1 t3669.2.2.2.2.2.1 t3669.2.2.2.2.2.2.1, b9 g3557 g3541, b7 g3541 g3543 a3551 a3552 a3553 a3554, b6 g3543 A3546 l3545.length n3548 t3694.2.1, r5 A3546 l3545.length n3548 t3694.2.2, b10 g3559 a3560] w3696) := ⟨HS.out.call hS⟩
    clear hS
    have hc3697 : w3696.cell? ⟨g3672, 0, none⟩ = some (.int .i64 t3669.1) := blk_cellv (HS.out.at0) 0 rfl
    have hc3698 : w3696.cell? ⟨g3672, 1, none⟩ = some (.int .i64 t3669.2.1) := blk_cellv (HS.out.at0) 1 rfl
    have hc3699 : w3696.cell? ⟨g3672, 2, none⟩ = some (.int .i64 t3669.2.2.1) := blk_cellv (HS.out.at0) 2 rfl
    have hc3700 : w3696.cell? ⟨g3672, 3, none⟩ = some (.int .i64 t3694.1) := blk_cellv (HS.out.at0) 3 rfl
    have hc3701 : w3696.cell? ⟨g3672, 4, none⟩ = some (.int .i64 t3669.2.2.2.2.1) := blk_cellv (HS.out.at0) 4 rfl
    have hc3702 : w3696.cell? ⟨g3672, 5, none⟩ = some (.int .i64 t3669.2.2.2.2.2.1) := blk_cellv (HS.out.at0) 5 rfl
    have hc3703 : w3696.cell? ⟨g3672, 6, none⟩ = some (.int .i64 t3669.2.2.2.2.2.2.1) := blk_cellv (HS.out.at0) 6 rfl
    go_wp2_with fail
    clear hc3697 hc3698 hc3699 hc3700 hc3701 hc3702 hc3703
    obtain ⟨t3704, HA3705, H⟩ := bind_some H
    refine (tag_Pack.calls _ t3669.1 t3669.2.1 t3669.2.2.1 t3694.1 t3669.2.2.2.2.1 t3669.2.2.2.2.2.1 t3669.2.2.2.2.2.2.1 t3704 _ ⟨HGl0.out.pass (l := []) HS.out⟩ ⟨Sep.start _⟩ HA3705).mono ?_
    rintro e_ w3706 ⟨rfl, hS⟩
    replace HS : Aside0 (Sep FF w [b16 g3672 t3669.1 t3669.2.1 t3669.2.2.1 t3694.1 t3669.2.2.2.2.1 t3669.2.2.2.2.2.1 t3669.2.2.2.2.2.2.1, b9 g3557 g3541, b7 g3541 g3543 a3551 a3552 a3553 a3554, b6 g3543 A3546 l3545.length n3548 t3694.2.1, r5 A3546 l3545.length n3548 t3694.2.2, b10 g3559 a3560] w3706) := ⟨HS.out.call hS⟩
    clear hS
    by_cases c3707 : t3704.2 = 0
    · replace H := if_yes c3707 H
      have c3707b0 : (t3704.2 == 0) = true := beq_iff_eq.mpr c3707
      have c3707b1 : (t3704.2 != 0) = false := bne_eq_false_iff_eq.mpr c3707
      clear c3707
      replace HS : Aside0 (Sep FF w [b9 g3557 g3541, b7 g3541 g3543 a3551 a3552 a3553 a3554, b6 g3543 A3546 l3545.length n3548 t3694.2.1, r5 A3546 l3545.length n3548 t3694.2.2, b10 g3559 a3560] w3706) := ⟨HS.out.sub (.cons _ (.cons_cons _ (.cons_cons _ (.cons_cons _ (.cons_cons _ (.cons_cons _ .slnil))))))⟩
      go_wp2_with fail
      replace HS : Aside0 (Sep FF w [r5 A3546 l3545.length n3548 t3694.2.2, b9 g3557 g3541, b7 g3541 g3543 a3551 a3552 a3553 a3554, b6 g3543 A3546 l3545.length n3548 t3694.2.1, b10 g3559 a3560] w3706) := ⟨HS.out.front 3 (by simp)⟩
      replace HS : Aside0 (Sep FF w [b6 g3543 A3546 l3545.length n3548 t3694.2.1, r5 A3546 l3545.length n3548 t3694.2.2, b9 g3557 g3541, b7 g3541 g3543 a3551 a3552 a3553 a3554, b10 g3559 a3560] w3706) := ⟨HS.out.front 3 (by simp)⟩
      replace HS : Aside0 (Sep FF w [b7 g3541 g3543 a3551 a3552 a3553 a3554, b6 g3543 A3546 l3545.length n3548 t3694.2.1, r5 A3546 l3545.length n3548 t3694.2.2, b9 g3557 g3541, b10 g3559 a3560] w3706) := ⟨HS.out.front 3 (by simp)⟩
      obtain ⟨t3708, HA3709, H⟩ := bind_some H
      refine (ground_Ground_SetWord.calls t3694.2.2 t3694.2.1 a3551 a3552 a3553 a3554 (wrap64 (a3555 - 1)) 0 t3704.1 g3541 g3543 A3546 l3545.length n3548 t3708 _ ⟨HGl0.out.pass HS.out⟩ ⟨HS.out.begin⟩ HA3709).mono ?_
      rintro e_ w3710 ⟨rfl, hS⟩
      replace HS : Aside0 (Sep FF w [b7 g3541 g3543 a3551 a3552 a3553 a3554, b6 g3543 A3546 l3545.length n3548 t3708.2.1, r5 A3546 l3545.length n3548 t3708.2.2, b9 g3557 g3541, b10 g3559 a3560] w3710) := ⟨HS.out.call hS⟩
      clear hS
      go_wp2_with fail
      go_ret
      rw [← some_eq H]
      exact ⟨(by first | rfl | (simp [IntKind.wrap_u32]; done)), HS.out⟩
    · replace H := if_no c3707 H
      have c3707b0 : (t3704.2 == 0) = false := beq_eq_false_iff_ne.mpr c3707
      have c3707b1 : (t3704.2 != 0) = true := bne_iff_ne.mpr c3707
      clear c3707
      replace HS : Aside0 (Sep FF w [b9 g3557 g3541, b7 g3541 g3543 a3551 a3552 a3553 a3554, b6 g3543 A3546 l3545.length n3548 t3694.2.1, r5 A3546 l3545.length n3548 t3694.2.2, b10 g3559 a3560] w3706) := ⟨HS.out.sub (.cons _ (.cons_cons _ (.cons_cons _ (.cons_cons _ (.cons_cons _ (.cons_cons _ .slnil))))))⟩
      go_wp2_with fail
      go_ret
      rw [← some_eq H]
      exact ⟨(by first | rfl | (simp [IntKind.wrap_u32]; done)), ((((((HS.out).front 4 (by simp)).front 1 (by simp)).front 4 (by simp)).front 4 (by simp)).front 4 (by simp)).keep (l := [b7 g3541 g3543 a3551 a3552 a3553 a3554, b6 g3543 A3546 l3545.length n3548 t3694.2.1, r5 A3546 l3545.length n3548 t3694.2.2, b9 g3557 g3541, b10 g3559 a3560]) (rest := [])⟩
  · replace H := if_no c3690 H
    have c3690b0 : t3669.2.2.2.2.2.2.2.1 = false := by simpa using c3690
    have c3690b1 : (!t3669.2.2.2.2.2.2.2.1) = true := by rw [c3690b0]; rfl
    try rw [c3690b1]
    clear c3690
    go_wp2_with (first | ((with_reducible refine gate_dst (N := 7) rfl ?_); refine box_on ?hg (N := 7) ?hd (cs := #[.int .i64 0, .int .i64 0, .int .i64 0, .int .i64 0, .int .i64 0, .int .i64 0, .int .i64 0]) (t := 79) ?hr ?_; (case hd => rfl); (case hg => rfl); (case hr => first | (go_simp; done) | (go_simp; rfl)); intro g3672 hg w3673 hbox hb; replace HS : Aside0 (Sep FF w [b7 g3541 g3543 a3551 a3552 a3553 a3554, b6 g3543 A3546 l3545.length n3548 t3669.2.2.2.2.2.2.2.2, r5 A3546 l3545.length n3548 l3545, b9 g3557 g3541, b10 g3559 a3560, b16 g3672 0 0 0 0 0 0 0] w3673) := ⟨HS.out.box hg hbox hb⟩; clear hg hbox hb; have hc3675 : w3673.cell? ⟨g3672, 0, none⟩ = some (.int .i64 0) := blk_cellv (HS.out.at5) 0 rfl; have hz3676 : w3673.frozen? ⟨g3672, 0, none⟩ = false := blk_fz (HS.out.at5) 0; have hc3677 : w3673.cell? ⟨g3672, 1, none⟩ = some (.int .i64 0) := blk_cellv (HS.out.at5) 1 rfl; have hz3678 : w3673.frozen? ⟨g3672, 1, none⟩ = false := blk_fz (HS.out.at5) 1; have hc3679 : w3673.cell? ⟨g3672, 2, none⟩ = some (.int .i64 0) := blk_cellv (HS.out.at5) 2 rfl; have hz3680 : w3673.frozen? ⟨g3672, 2, none⟩ = false := blk_fz (HS.out.at5) 2; have hc3681 : w3673.cell? ⟨g3672, 3, none⟩ = some (.int .i64 0) := blk_cellv (HS.out.at5) 3 rfl; have hz3682 : w3673.frozen? ⟨g3672, 3, none⟩ = false := blk_fz (HS.out.at5) 3; have hc3683 : w3673.cell? ⟨g3672, 4, none⟩ = some (.int .i64 0) := blk_cellv (HS.out.at5) 4 rfl; have hz3684 : w3673.frozen? ⟨g3672, 4, none⟩ = false := blk_fz (HS.out.at5) 4; have hc3685 : w3673.cell? ⟨g3672, 5, none⟩ = some (.int .i64 0) := blk_cellv (HS.out.at5) 5 rfl; have hz3686 : w3673.frozen? ⟨g3672, 5, none⟩ = false := blk_fz (HS.out.at5) 5; have hc3687 : w3673.cell? ⟨g3672, 6, none⟩ = some (.int .i64 0) := blk_cellv (HS.out.at5) 6 rfl; have hz3688 : w3673.frozen? ⟨g3672, 6, none⟩ = false := blk_fz (HS.out.at5) 6) | ((with_reducible refine gate_store (t := 79) (p := 7) rfl ?_); refine store_event (w1 := (World.setCell (World.setCell (World.setCell (World.setCell (World.setCell (World.setCell (World.setCell w3673 ⟨g3672, 0, none⟩ (.int .i64 t3669.1)) ⟨g3672, 1, none⟩ (.int .i64 t3669.2.1)) ⟨g3672, 2, none⟩ (.int .i64 t3669.2.2.1)) ⟨g3672, 3, none⟩ (.int .i64 t3669.2.2.2.1)) ⟨g3672, 4, none⟩ (.int .i64 t3669.2.2.2.2.1)) ⟨g3672, 5, none⟩ (.int .i64 t3669.2.2.2.2.2.1)) ⟨g3672, 6, none⟩ (.int .i64 t3669.2.2.2.2.2.2.1))) rfl (t := 79) (p := 7) rfl rfl ?hr ?_; (case hr => first | (go_simp; done) | (go_simp; rfl)); intro w3689 hst; clear hc3675 hz3676 hc3677 hz3678 hc3679 hz3680 hc3681 hz3682 hc3683 hz3684 hc3685 hz3686 hc3687 hz3688; replace HS : Aside0 (Sep FF w [b7 g3541 g3543 a3551 a3552 a3553 a3554, b6 g3543 A3546 l3545.length n3548 t3669.2.2.2.2.2.2.2.2, r5 A3546 l3545.length n3548 l3545, b9 g3557 g3541, b10 g3559 a3560, b16 g3672 t3669.1 t3669.2.1 t3669.2.2.1 t3669.2.2.2.1 t3669.2.2.2.2.1 t3669.2.2.2.2.2.1 t3669.2.2.2.2.2.2.1] w3689) := ⟨by rw [hst]; exact HS.out.setAll (l1 := [b7 g3541 g3543 a3551 a3552 a3553 a3554, b6 g3543 A3546 l3545.length n3548 t3669.2.2.2.2.2.2.2.2, r5 A3546 l3545.length n3548 l3545, b9 g3557 g3541, b10 g3559 a3560]) (l2 := []) [.int .i64 t3669.1, .int .i64 t3669.2.1, .int .i64 t3669.2.2.1, .int .i64 t3669.2.2.2.1, .int .i64 t3669.2.2.2.2.1, .int .i64 t3669.2.2.2.2.2.1, .int .i64 t3669.2.2.2.2.2.2.1] rfl⟩; clear hst; replace HS : Aside0 (Sep FF w [b7 g3541 g3543 a3551 a3552 a3553 a3554, b6 g3543 A3546 l3545.length n3548 t3669.2.2.2.2.2.2.2.2, r5 A3546 l3545.length n3548 l3545, b9 g3557 g3541, b10 g3559 a3560] w3689) := ⟨HS.out.sub (.cons_cons _ (.cons_cons _ (.cons_cons _ (.cons_cons _ (.cons_cons _ (.cons _ .slnil))))))⟩))
    go_ret
    rw [← some_eq H]
    exact ⟨(by first | rfl | (simp [IntKind.wrap_u32]; done)), HS.out⟩

set_option maxHeartbeats 30000000 in
set_option maxRecDepth 100000 in
theorem tint_Deepen.calls (k : Nat) (l3521 : List Int) (a3526 : Int) (a3527 : Int) (a3528 : Int) (a3529 : Int) (a3530 : Int) (a3531 : Int) (g3517 : Nat) (g3519 : Nat) (A3522 : Option Addr) (m3523 : Nat) (n3524 : Nat) (r : Bool × Int × List Int) (w : World)  (HGl0 : Aside0 (Gl 0 #[.int .i64 0, .int .i64 0, .int .i64 0, .int .i64 0, .int .i64 0] (fps [b7 g3517 g3519 a3527 a3528 a3529 a3530, b6 g3519 A3522 m3523 n3524 a3526, r5 A3522 m3523 n3524 l3521]) w)) (HS : Aside0 (Sep (fps [b7 g3517 g3519 a3527 a3528 a3529 a3530, b6 g3519 A3522 m3523 n3524 a3526, r5 A3522 m3523 n3524 l3521]) w [b7 g3517 g3519 a3527 a3528 a3529 a3530, b6 g3519 A3522 m3523 n3524 a3526, r5 A3522 m3523 n3524 l3521] w)) (H : Aside0 (tint_Deepen.f k l3521 a3526 a3527 a3528 a3529 a3530 a3531 = some r)) :
    Calls Tryz.prog 14 #[.pointer (some ⟨g3517, 0, none⟩), .int .i64 a3531] w fun e w' => e = .returned (.bool r.1) ∧ Sep (fps [b7 g3517 g3519 a3527 a3528 a3529 a3530, b6 g3519 A3522 m3523 n3524 a3526, r5 A3522 m3523 n3524 l3521]) w [b7 g3517 g3519 a3527 a3528 a3529 a3530, b6 g3519 A3522 m3523 n3524 r.2.1, r5 A3522 m3523 n3524 r.2.2] w' := by
  generalize (fps [b7 g3517 g3519 a3527 a3528 a3529 a3530, b6 g3519 A3522 m3523 n3524 a3526, r5 A3522 m3523 n3524 l3521]) = FF at HS HGl0 ⊢
  obtain rfl := (row_len (HS.out.at2)).symm
  unfold tint_Deepen.f at H
  go_enter Tryz.func14, Tryz.ntmps14
  go_wp2_with (first | ((with_reducible refine gate_dst (N := 2) rfl ?_); refine box_on ?hg (N := 2) ?hd (cs := #[.pointer (some ⟨g3517, 0, none⟩)]) (t := 24) ?hr ?_; (case hd => rfl); (case hg => rfl); (case hr => first | (go_simp; done) | (go_simp; rfl)); intro g3714 hg w3715 hbox hb; replace HS : Aside0 (Sep FF w [b7 g3517 g3519 a3527 a3528 a3529 a3530, b6 g3519 A3522 l3521.length n3524 a3526, r5 A3522 l3521.length n3524 l3521, b9 g3714 g3517] w3715) := ⟨HS.out.box hg hbox hb⟩; clear hg hbox hb) | ((with_reducible refine gate_dst (N := 3) rfl ?_); refine box_on ?hg (N := 3) ?hd (cs := #[.int .i64 a3531]) (t := 3) ?hr ?_; (case hd => rfl); (case hg => rfl); (case hr => first | (go_simp; done) | (go_simp; rfl)); intro g3717 hg w3718 hbox hb; replace HS : Aside0 (Sep FF w [b7 g3517 g3519 a3527 a3528 a3529 a3530, b6 g3519 A3522 l3521.length n3524 a3526, r5 A3522 l3521.length n3524 l3521, b9 g3714 g3517, b10 g3717 a3531] w3718) := ⟨HS.out.box hg hbox hb⟩; clear hg hbox hb; have hc3720 : w3718.cell? ⟨g3714, 0, none⟩ = some (.pointer (some ⟨g3517, 0, none⟩)) := blk_cellv (HS.out.at3) 0 rfl; have hc3721 : w3718.cell? ⟨g3717, 0, none⟩ = some (.int .i64 a3531) := blk_cellv (HS.out.at4) 0 rfl))
  clear hc3720 hc3721
  obtain ⟨t3722, HA3723, H⟩ := bind_some H
  refine (tint_change_F54.calls _ l3521 a3526 a3527 a3528 a3529 a3530 a3531 a3531 g3517 g3519 A3522 l3521.length n3524 g3714 g3717 t3722 _ ⟨HGl0.out.pass HS.out⟩ ⟨HS.out.begin⟩ HA3723).mono ?_
  rintro e_ w3724 ⟨rfl, hS⟩
  replace HS : Aside0 (Sep FF w [b7 g3517 g3519 a3527 a3528 a3529 a3530, b6 g3519 A3522 l3521.length n3524 t3722.2.1, r5 A3522 l3521.length n3524 t3722.2.2, b9 g3714 g3517, b10 g3717 a3531] w3724) := ⟨HS.out.call hS⟩
  clear hS
  replace HS : Aside0 (Sep FF w [b7 g3517 g3519 a3527 a3528 a3529 a3530, b6 g3519 A3522 l3521.length n3524 t3722.2.1, r5 A3522 l3521.length n3524 t3722.2.2] w3724) := ⟨HS.out.sub (.cons_cons _ (.cons_cons _ (.cons_cons _ (.cons _ (.cons _ .slnil)))))⟩
  go_wp2_with fail
  go_ret
  rw [← some_eq H]
  exact ⟨(by first | rfl | (simp [IntKind.wrap_u32]; done)), HS.out⟩

set_option maxHeartbeats 30000000 in
set_option maxRecDepth 100000 in
theorem tint_Phase.calls (l3754 : List Int) (a3759 : Int) (a3760 : Int) (a3761 : Int) (a3762 : Int) (a3763 : Int) (g3750 : Nat) (g3752 : Nat) (A3755 : Option Addr) (m3756 : Nat) (n3757 : Nat) (r : Int × Int) (w : World)  (HGl0 : Aside0 (Gl 0 #[.int .i64 0, .int .i64 0, .int .i64 0, .int .i64 0, .int .i64 0] (fps [b7 g3750 g3752 a3760 a3761 a3762 a3763, b6 g3752 A3755 m3756 n3757 a3759, r5 A3755 m3756 n3757 l3754]) w)) (HS : Aside0 (Sep (fps [b7 g3750 g3752 a3760 a3761 a3762 a3763, b6 g3752 A3755 m3756 n3757 a3759, r5 A3755 m3756 n3757 l3754]) w [b7 g3750 g3752 a3760 a3761 a3762 a3763, b6 g3752 A3755 m3756 n3757 a3759, r5 A3755 m3756 n3757 l3754] w)) (H : Aside0 (tint_Phase.f l3754 a3759 a3760 a3761 a3762 a3763 = some r)) :
    Calls Tryz.prog 22 #[.pointer (some ⟨g3750, 0, none⟩)] w fun e w' => e = .returned (.int .i64 r.1) ∧ Sep (fps [b7 g3750 g3752 a3760 a3761 a3762 a3763, b6 g3752 A3755 m3756 n3757 a3759, r5 A3755 m3756 n3757 l3754]) w [b7 g3750 g3752 a3760 a3761 a3762 a3763, b6 g3752 A3755 m3756 n3757 r.2, r5 A3755 m3756 n3757 l3754] w' := by
  generalize (fps [b7 g3750 g3752 a3760 a3761 a3762 a3763, b6 g3752 A3755 m3756 n3757 a3759, r5 A3755 m3756 n3757 l3754]) = FF at HS HGl0 ⊢
  obtain rfl := (row_len (HS.out.at2)).symm
  unfold tint_Phase.f at H
  go_enter Tryz.func22, Tryz.ntmps22
  go_wp2_with fail
  obtain ⟨t3767, HA3768, H⟩ := bind_some H
  refine (ground_Ground_Reg.calls l3754 a3759 a3760 a3761 a3762 a3763 11 g3750 g3752 A3755 l3754.length n3757 t3767 _ ⟨HGl0.out.pass HS.out⟩ ⟨HS.out.begin⟩ HA3768).mono ?_
  rintro e_ w3769 ⟨rfl, hS⟩
  replace HS : Aside0 (Sep FF w [b7 g3750 g3752 a3760 a3761 a3762 a3763, b6 g3752 A3755 l3754.length n3757 t3767.2, r5 A3755 l3754.length n3757 l3754] w3769) := ⟨HS.out.call hS⟩
  clear hS
  go_wp2_with fail
  go_ret
  rw [← some_eq H]
  exact ⟨(by first | rfl | (simp [IntKind.wrap_u32]; done)), HS.out⟩

set_option maxHeartbeats 30000000 in
set_option maxRecDepth 100000 in
theorem obj_in.calls (l3807 : List Int) (a3812 : Int) (a3813 : Int) (a3814 : Int) (a3815 : Int) (a3816 : Int) (a3817 : Int) (g3803 : Nat) (g3805 : Nat) (A3808 : Option Addr) (m3809 : Nat) (n3810 : Nat) (r : Bool) (w : World)  (HGl0 : Aside0 (Gl 0 #[.int .i64 0, .int .i64 0, .int .i64 0, .int .i64 0, .int .i64 0] (fps [b7 g3803 g3805 a3813 a3814 a3815 a3816, b6 g3805 A3808 m3809 n3810 a3812, r5 A3808 m3809 n3810 l3807]) w)) (HS : Aside0 (Sep (fps [b7 g3803 g3805 a3813 a3814 a3815 a3816, b6 g3805 A3808 m3809 n3810 a3812, r5 A3808 m3809 n3810 l3807]) w [b7 g3803 g3805 a3813 a3814 a3815 a3816, b6 g3805 A3808 m3809 n3810 a3812, r5 A3808 m3809 n3810 l3807] w)) (H : Aside0 (obj_in.f l3807 a3812 a3813 a3814 a3815 a3816 a3817 = some r)) :
    Calls Tryz.prog 112 #[.pointer (some ⟨g3803, 0, none⟩), .int .i64 a3817] w fun e w' => e = .returned (.bool r) ∧ Sep (fps [b7 g3803 g3805 a3813 a3814 a3815 a3816, b6 g3805 A3808 m3809 n3810 a3812, r5 A3808 m3809 n3810 l3807]) w [b7 g3803 g3805 a3813 a3814 a3815 a3816, b6 g3805 A3808 m3809 n3810 a3812, r5 A3808 m3809 n3810 l3807] w' := by
  generalize (fps [b7 g3803 g3805 a3813 a3814 a3815 a3816, b6 g3805 A3808 m3809 n3810 a3812, r5 A3808 m3809 n3810 l3807]) = FF at HS HGl0 ⊢
  obtain rfl := (row_len (HS.out.at2)).symm
  unfold obj_in.f at H
  go_enter Tryz.func112, Tryz.ntmps112
  by_cases c3818 : a3817 > 0
  · replace H := if_yes c3818 H
    have c3818b0 : decide (0 < a3817) = true := decide_eq_true c3818
    clear c3818
    go_wp2_with fail
    obtain ⟨t3819, HA3820, H⟩ := bind_some H
    refine (ground_Ground_Conf.calls l3807 a3812 a3813 a3814 a3815 a3816 g3803 g3805 A3808 l3807.length n3810 t3819 _ ⟨HGl0.out.pass HS.out⟩ ⟨HS.out.begin⟩ HA3820).mono ?_
    rintro e_ w3821 ⟨rfl, hS⟩
    replace HS : Aside0 (Sep FF w [b7 g3803 g3805 a3813 a3814 a3815 a3816, b6 g3805 A3808 l3807.length n3810 a3812, r5 A3808 l3807.length n3810 l3807] w3821) := ⟨HS.out.call hS⟩
    clear hS
    have fl3822 : ∀ w, (Instr.field 29 (.agg #[.int .i64 t3819.1, .int .i64 t3819.2.1, .int .i64 t3819.2.2.1, .int .i64 t3819.2.2.2]) 0).run Tryz.prog w = .ok (.int .i64 t3819.1) w := fun _ => by kernel_rfl
    go_wp2_with fail
    clear fl3822
    go_ret
    rw [← some_eq H]
    exact ⟨(by first | rfl | (simp [IntKind.wrap_u32]; done)), HS.out⟩
  · replace H := if_no c3818 H
    have c3818b0 : decide (0 < a3817) = false := decide_eq_false c3818
    clear c3818
    go_wp2_with fail
    go_ret
    rw [← some_eq H]
    exact ⟨(by first | rfl | (simp [IntKind.wrap_u32]; done)), HS.out⟩

set_option maxHeartbeats 30000000 in
set_option maxRecDepth 100000 in
theorem obj_isHead.calls (a3834 : Int) (r : Bool) (w : World)  (HGl0 : Aside0 (Gl 0 #[.int .i64 0, .int .i64 0, .int .i64 0, .int .i64 0, .int .i64 0] (fps []) w)) (HS : Aside0 (Sep (fps []) w [] w)) (H : Aside0 (obj_isHead.f a3834 = some r)) :
    Calls Tryz.prog 113 #[.int .i64 a3834] w fun e w' => e = .returned (.bool r) ∧ Sep (fps []) w [] w' := by
  unfold obj_isHead.f at H
  go_enter Tryz.func113, Tryz.ntmps113
  by_cases c3835 : a3834 = 1
  · replace H := if_yes c3835 H
    have c3835b0 : (a3834 == 1) = true := beq_iff_eq.mpr c3835
    have c3835b1 : (a3834 != 1) = false := bne_eq_false_iff_eq.mpr c3835
    clear c3835
    go_wp2_with fail
    go_ret
    rw [← some_eq H]
    exact ⟨(by first | rfl | (simp [IntKind.wrap_u32]; done)), HS.out⟩
  · replace H := if_no c3835 H
    have c3835b0 : (a3834 == 1) = false := beq_eq_false_iff_ne.mpr c3835
    have c3835b1 : (a3834 != 1) = true := bne_iff_ne.mpr c3835
    clear c3835
    go_wp2_with fail
    go_ret
    rw [← some_eq H]
    exact ⟨(by first | rfl | (simp [IntKind.wrap_u32]; done)), HS.out⟩

set_option maxHeartbeats 30000000 in
set_option maxRecDepth 100000 in
theorem obj_Is.calls (l3791 : List Int) (a3796 : Int) (a3797 : Int) (a3798 : Int) (a3799 : Int) (a3800 : Int) (a3801 : Int) (g3787 : Nat) (g3789 : Nat) (A3792 : Option Addr) (m3793 : Nat) (n3794 : Nat) (r : Bool × Int) (w : World)  (HGl0 : Aside0 (Gl 0 #[.int .i64 0, .int .i64 0, .int .i64 0, .int .i64 0, .int .i64 0] (fps [b7 g3787 g3789 a3797 a3798 a3799 a3800, b6 g3789 A3792 m3793 n3794 a3796, r5 A3792 m3793 n3794 l3791]) w)) (HS : Aside0 (Sep (fps [b7 g3787 g3789 a3797 a3798 a3799 a3800, b6 g3789 A3792 m3793 n3794 a3796, r5 A3792 m3793 n3794 l3791]) w [b7 g3787 g3789 a3797 a3798 a3799 a3800, b6 g3789 A3792 m3793 n3794 a3796, r5 A3792 m3793 n3794 l3791] w)) (H : Aside0 (obj_Is.f l3791 a3796 a3797 a3798 a3799 a3800 a3801 = some r)) :
    Calls Tryz.prog 61 #[.pointer (some ⟨g3787, 0, none⟩), .int .i64 a3801] w fun e w' => e = .returned (.bool r.1) ∧ Sep (fps [b7 g3787 g3789 a3797 a3798 a3799 a3800, b6 g3789 A3792 m3793 n3794 a3796, r5 A3792 m3793 n3794 l3791]) w [b7 g3787 g3789 a3797 a3798 a3799 a3800, b6 g3789 A3792 m3793 n3794 r.2, r5 A3792 m3793 n3794 l3791] w' := by
  generalize (fps [b7 g3787 g3789 a3797 a3798 a3799 a3800, b6 g3789 A3792 m3793 n3794 a3796, r5 A3792 m3793 n3794 l3791]) = FF at HS HGl0 ⊢
  obtain rfl := (row_len (HS.out.at2)).symm
  unfold obj_Is.f at H
  go_enter Tryz.func61, Tryz.ntmps61
  go_wp2_with fail
  obtain ⟨t3839, HA3840, H⟩ := bind_some H
  refine (obj_in.calls l3791 a3796 a3797 a3798 a3799 a3800 a3801 g3787 g3789 A3792 l3791.length n3794 t3839 _ ⟨HGl0.out.pass HS.out⟩ ⟨HS.out.begin⟩ HA3840).mono ?_
  rintro e_ w3841 ⟨rfl, hS⟩
  replace HS : Aside0 (Sep FF w [b7 g3787 g3789 a3797 a3798 a3799 a3800, b6 g3789 A3792 l3791.length n3794 a3796, r5 A3792 l3791.length n3794 l3791] w3841) := ⟨HS.out.call hS⟩
  clear hS
  by_cases c3842 : t3839 = true
  · replace H := if_yes c3842 H
    have c3842b0 : t3839 = true := c3842
    have c3842b1 : (!t3839) = false := by rw [c3842b0]; rfl
    clear c3842
    go_wp2_with fail
    obtain ⟨t3843, HA3844, H⟩ := bind_some H
    refine (ground_Ground_Word.calls l3791 a3796 a3797 a3798 a3799 a3800 (wrap64 (a3801 - 1)) 0 g3787 g3789 A3792 l3791.length n3794 t3843 _ ⟨HGl0.out.pass HS.out⟩ ⟨HS.out.begin⟩ HA3844).mono ?_
    rintro e_ w3845 ⟨rfl, hS⟩
    replace HS : Aside0 (Sep FF w [b7 g3787 g3789 a3797 a3798 a3799 a3800, b6 g3789 A3792 l3791.length n3794 t3843.2, r5 A3792 l3791.length n3794 l3791] w3845) := ⟨HS.out.call hS⟩
    clear hS
    go_wp2_with fail
    obtain ⟨t3846, HA3847, H⟩ := bind_some H
    refine (tag_Unpack.calls t3843.1 t3846 _ ⟨HGl0.out.pass (l := []) HS.out⟩ ⟨Sep.start _⟩ HA3847).mono ?_
    rintro e_ w3848 ⟨rfl, hS⟩
    replace HS : Aside0 (Sep FF w [b7 g3787 g3789 a3797 a3798 a3799 a3800, b6 g3789 A3792 l3791.length n3794 t3843.2, r5 A3792 l3791.length n3794 l3791] w3848) := ⟨HS.out.call hS⟩
    clear hS
    have fl3849 : ∀ w, (Instr.field 79 (.agg #[.int .i64 t3846.1, .int .i64 t3846.2.1, .int .i64 t3846.2.2.1, .int .i64 t3846.2.2.2.1, .int .i64 t3846.2.2.2.2.1, .int .i64 t3846.2.2.2.2.2.1, .int .i64 t3846.2.2.2.2.2.2]) 0).run Tryz.prog w = .ok (.int .i64 t3846.1) w := fun _ => by kernel_rfl
    go_wp2_with fail
    clear fl3849
    obtain ⟨t3850, HA3851, H⟩ := bind_some H
    refine (obj_isHead.calls t3846.1 t3850 _ ⟨HGl0.out.pass (l := []) HS.out⟩ ⟨Sep.start _⟩ HA3851).mono ?_
    rintro e_ w3852 ⟨rfl, hS⟩
    replace HS : Aside0 (Sep FF w [b7 g3787 g3789 a3797 a3798 a3799 a3800, b6 g3789 A3792 l3791.length n3794 t3843.2, r5 A3792 l3791.length n3794 l3791] w3852) := ⟨HS.out.call hS⟩
    clear hS
    go_wp2_with fail
    go_ret
    rw [← some_eq H]
    exact ⟨(by first | rfl | (simp [IntKind.wrap_u32]; done)), HS.out⟩
  · replace H := if_no c3842 H
    have c3842b0 : t3839 = false := by simpa using c3842
    have c3842b1 : (!t3839) = true := by rw [c3842b0]; rfl
    clear c3842
    go_wp2_with fail
    go_ret
    rw [← some_eq H]
    exact ⟨(by first | rfl | (simp [IntKind.wrap_u32]; done)), HS.out⟩

set_option maxHeartbeats 30000000 in
set_option maxRecDepth 100000 in
theorem tint_Shadow.calls (l3862 : List Int) (a3867 : Int) (a3868 : Int) (a3869 : Int) (a3870 : Int) (a3871 : Int) (a3872 : Int) (g3858 : Nat) (g3860 : Nat) (A3863 : Option Addr) (m3864 : Nat) (n3865 : Nat) (r : Int × Int) (w : World)  (HGl0 : Aside0 (Gl 0 #[.int .i64 0, .int .i64 0, .int .i64 0, .int .i64 0, .int .i64 0] (fps [b7 g3858 g3860 a3868 a3869 a3870 a3871, b6 g3860 A3863 m3864 n3865 a3867, r5 A3863 m3864 n3865 l3862]) w)) (HS : Aside0 (Sep (fps [b7 g3858 g3860 a3868 a3869 a3870 a3871, b6 g3860 A3863 m3864 n3865 a3867, r5 A3863 m3864 n3865 l3862]) w [b7 g3858 g3860 a3868 a3869 a3870 a3871, b6 g3860 A3863 m3864 n3865 a3867, r5 A3863 m3864 n3865 l3862] w)) (H : Aside0 (tint_Shadow.f l3862 a3867 a3868 a3869 a3870 a3871 a3872 = some r)) :
    Calls Tryz.prog 17 #[.pointer (some ⟨g3858, 0, none⟩), .int .i64 a3872] w fun e w' => e = .returned (.int .i64 r.1) ∧ Sep (fps [b7 g3858 g3860 a3868 a3869 a3870 a3871, b6 g3860 A3863 m3864 n3865 a3867, r5 A3863 m3864 n3865 l3862]) w [b7 g3858 g3860 a3868 a3869 a3870 a3871, b6 g3860 A3863 m3864 n3865 r.2, r5 A3863 m3864 n3865 l3862] w' := by
  generalize (fps [b7 g3858 g3860 a3868 a3869 a3870 a3871, b6 g3860 A3863 m3864 n3865 a3867, r5 A3863 m3864 n3865 l3862]) = FF at HS HGl0 ⊢
  obtain rfl := (row_len (HS.out.at2)).symm
  unfold tint_Shadow.f at H
  go_enter Tryz.func17, Tryz.ntmps17
  go_wp2_with fail
  obtain ⟨t3904, HA3905, H⟩ := bind_some H
  refine (tint_of.calls l3862 a3867 a3868 a3869 a3870 a3871 a3872 g3858 g3860 A3863 l3862.length n3865 t3904 _ ⟨HGl0.out.pass HS.out⟩ ⟨HS.out.begin⟩ HA3905).mono ?_
  rintro e_ w3906 ⟨rfl, hS⟩
  replace HS : Aside0 (Sep FF w [b7 g3858 g3860 a3868 a3869 a3870 a3871, b6 g3860 A3863 l3862.length n3865 t3904.2.2.2.2.2.2.2.2, r5 A3863 l3862.length n3865 l3862] w3906) := ⟨HS.out.call hS⟩
  clear hS
  go_wp2_with (first | ((with_reducible refine gate_dst (N := 5) rfl ?_); refine box_on ?hg (N := 5) ?hd (cs := #[.int .i64 0, .int .i64 0, .int .i64 0, .int .i64 0, .int .i64 0, .int .i64 0, .int .i64 0]) (t := 79) ?hr ?_; (case hd => rfl); (case hg => rfl); (case hr => first | (go_simp; done) | (go_simp; rfl)); intro g3907 hg w3908 hbox hb; replace HS : Aside0 (Sep FF w [b7 g3858 g3860 a3868 a3869 a3870 a3871, b6 g3860 A3863 l3862.length n3865 t3904.2.2.2.2.2.2.2.2, r5 A3863 l3862.length n3865 l3862, b16 g3907 0 0 0 0 0 0 0] w3908) := ⟨HS.out.box hg hbox hb⟩; clear hg hbox hb; have hc3910 : w3908.cell? ⟨g3907, 0, none⟩ = some (.int .i64 0) := blk_cellv (HS.out.at3) 0 rfl; have hz3911 : w3908.frozen? ⟨g3907, 0, none⟩ = false := blk_fz (HS.out.at3) 0; have hc3912 : w3908.cell? ⟨g3907, 1, none⟩ = some (.int .i64 0) := blk_cellv (HS.out.at3) 1 rfl; have hz3913 : w3908.frozen? ⟨g3907, 1, none⟩ = false := blk_fz (HS.out.at3) 1; have hc3914 : w3908.cell? ⟨g3907, 2, none⟩ = some (.int .i64 0) := blk_cellv (HS.out.at3) 2 rfl; have hz3915 : w3908.frozen? ⟨g3907, 2, none⟩ = false := blk_fz (HS.out.at3) 2; have hc3916 : w3908.cell? ⟨g3907, 3, none⟩ = some (.int .i64 0) := blk_cellv (HS.out.at3) 3 rfl; have hz3917 : w3908.frozen? ⟨g3907, 3, none⟩ = false := blk_fz (HS.out.at3) 3; have hc3918 : w3908.cell? ⟨g3907, 4, none⟩ = some (.int .i64 0) := blk_cellv (HS.out.at3) 4 rfl; have hz3919 : w3908.frozen? ⟨g3907, 4, none⟩ = false := blk_fz (HS.out.at3) 4; have hc3920 : w3908.cell? ⟨g3907, 5, none⟩ = some (.int .i64 0) := blk_cellv (HS.out.at3) 5 rfl; have hz3921 : w3908.frozen? ⟨g3907, 5, none⟩ = false := blk_fz (HS.out.at3) 5; have hc3922 : w3908.cell? ⟨g3907, 6, none⟩ = some (.int .i64 0) := blk_cellv (HS.out.at3) 6 rfl; have hz3923 : w3908.frozen? ⟨g3907, 6, none⟩ = false := blk_fz (HS.out.at3) 6) | ((with_reducible refine gate_store (t := 79) (p := 5) rfl ?_); refine store_event (w1 := (World.setCell (World.setCell (World.setCell (World.setCell (World.setCell (World.setCell (World.setCell w3908 ⟨g3907, 0, none⟩ (.int .i64 t3904.1)) ⟨g3907, 1, none⟩ (.int .i64 t3904.2.1)) ⟨g3907, 2, none⟩ (.int .i64 t3904.2.2.1)) ⟨g3907, 3, none⟩ (.int .i64 t3904.2.2.2.1)) ⟨g3907, 4, none⟩ (.int .i64 t3904.2.2.2.2.1)) ⟨g3907, 5, none⟩ (.int .i64 t3904.2.2.2.2.2.1)) ⟨g3907, 6, none⟩ (.int .i64 t3904.2.2.2.2.2.2.1))) rfl (t := 79) (p := 5) rfl rfl ?hr ?_; (case hr => first | (go_simp; done) | (go_simp; rfl)); intro w3924 hst; clear hc3910 hz3911 hc3912 hz3913 hc3914 hz3915 hc3916 hz3917 hc3918 hz3919 hc3920 hz3921 hc3922 hz3923; replace HS : Aside0 (Sep FF w [b7 g3858 g3860 a3868 a3869 a3870 a3871, b6 g3860 A3863 l3862.length n3865 t3904.2.2.2.2.2.2.2.2, r5 A3863 l3862.length n3865 l3862, b16 g3907 t3904.1 t3904.2.1 t3904.2.2.1 t3904.2.2.2.1 t3904.2.2.2.2.1 t3904.2.2.2.2.2.1 t3904.2.2.2.2.2.2.1] w3924) := ⟨by rw [hst]; exact HS.out.setAll (l1 := [b7 g3858 g3860 a3868 a3869 a3870 a3871, b6 g3860 A3863 l3862.length n3865 t3904.2.2.2.2.2.2.2.2, r5 A3863 l3862.length n3865 l3862]) (l2 := []) [.int .i64 t3904.1, .int .i64 t3904.2.1, .int .i64 t3904.2.2.1, .int .i64 t3904.2.2.2.1, .int .i64 t3904.2.2.2.2.1, .int .i64 t3904.2.2.2.2.2.1, .int .i64 t3904.2.2.2.2.2.2.1] rfl⟩; clear hst))
  refine start_ (n := 9) (S := (fun w' => w'.cell? ⟨g3907, 3, none⟩ = some (.int .i64 t3904.2.2.2.1))) (ds := []) #[false, false, false, false, false, false, false, false, false] (by kernel_rfl) rfl rfl (blk_cellv ((HS.out.drew).at3) 3 rfl) (fun hHeld => ?_)
  have HS_ := Aside0.mk HS.out.drew
  clear HS
  generalize World.drew _ = w3926 at HS_ hHeld ⊢
  have HS := HS_
  clear HS_
  refine pure_ (i := 0) (N := some 13) (v := ?_) (a' := ?_) #[true, false, false, false, false, false, false, false, false] rfl rfl (by kernel_rfl) (fun _ _ _ h => h) (Or.inl ⟨by rfl, ?_⟩) ?_ ?_
  rotate_left
  · intro w'
    go_simp
    with_reducible rfl
  rotate_left
  · simp only [Act.put, List.setIfInBounds_toArray, List.set_cons_zero, List.set_cons_succ, i64_w, i32_w]
    rfl
  refine pure_ (i := 1) (N := some 14) (v := ?_) (a' := ?_) #[true, true, false, false, false, false, false, false, false] rfl rfl (by kernel_rfl) (fun _ _ _ h => h) (Or.inl ⟨by rfl, ?_⟩) ?_ ?_
  rotate_left
  · intro w'
    go_simp
    with_reducible rfl
  rotate_left
  · simp only [Act.put, List.setIfInBounds_toArray, List.set_cons_zero, List.set_cons_succ, i64_w, i32_w]
    rfl
  refine pure_ (i := 2) (N := some 15) (v := ?_) (a' := ?_) #[true, true, true, false, false, false, false, false, false] rfl rfl (by kernel_rfl) (fun _ _ _ h => h) (Or.inl ⟨by rfl, ?_⟩) ?_ ?_
  rotate_left
  · intro w'
    go_simp
    with_reducible rfl
  rotate_left
  · simp only [Act.put, List.setIfInBounds_toArray, List.set_cons_zero, List.set_cons_succ, i64_w, i32_w]
    rfl
  by_cases c3927 : t3904.2.2.2.2.2.2.2.1 = true
  · replace H := if_yes c3927 H
    have c3927b0 : t3904.2.2.2.2.2.2.2.1 = true := c3927
    have c3927b1 : (!t3904.2.2.2.2.2.2.2.1) = false := by rw [c3927b0]; rfl
    try rw [c3927b1]
    clear c3927
    try simp only [c3927b0, Bool.not_true, Bool.not_false]
    refine pure_ (i := 3) (N := some 16) (v := ?_) (a' := ?_) #[true, true, true, true, false, false, false, false, false] rfl rfl (by kernel_rfl) (fun _ _ _ h => h) (Or.inl ⟨by rfl, ?_⟩) ?_ ?_
    rotate_left
    · intro w'
      go_simp
      with_reducible rfl
    rotate_left
    · simp only [Act.put, List.setIfInBounds_toArray, List.set_cons_zero, List.set_cons_succ, i64_w, i32_w]
      rfl
    try simp only [c3927b0, Bool.not_true, Bool.not_false]
    refine pure_ (i := 5) (N := some 18) (v := ?_) (a' := ?_) #[true, true, true, true, false, true, false, false, false] rfl rfl (by kernel_rfl) (fun _ _ _ h => h) (Or.inl ⟨by rfl, ?_⟩) ?_ ?_
    rotate_left
    · intro w'
      go_simp
      with_reducible rfl
    rotate_left
    · simp only [Act.put, List.setIfInBounds_toArray, List.set_cons_zero, List.set_cons_succ, i64_w, i32_w]
      rfl
    try simp only [c3927b0, Bool.not_true, Bool.not_false]
    refine take_ (i := 4) (N := some 17) (v := ?_) (a' := ?_) #[true, true, true, true, true, true, false, false, false] rfl rfl (by kernel_rfl) (fun _ _ _ h => h) (Or.inl ⟨by rfl, ?_⟩) hHeld ?_ ?_
    rotate_left
    · rintro w' hS'
      have s0 := hS'
      go_simp
      with_reducible rfl
    rotate_left
    · simp only [Act.put, List.setIfInBounds_toArray, List.set_cons_zero, List.set_cons_succ, i64_w, i32_w]
      rfl
    try simp only [c3927b0, Bool.not_true, Bool.not_false]
    refine one_ (i := 6) (N := some 19) #[true, true, true, true, true, true, true, false, false] rfl rfl (by kernel_rfl) (by decide) (fun K hK => ?_)
    obtain ⟨t3928, HA3929, H⟩ := bind_some H
    refine goes_ Tryz.func15 (by kernel_rfl) rfl #[.pointer (some ⟨g3858, 0, none⟩)] (by rfl) rfl rfl (by (try simp only [List.map_toArray, List.map_cons, List.map_nil]); first | done | rfl) ?_
    refine (tint_Parity.calls l3862 t3904.2.2.2.2.2.2.2.2 a3868 a3869 a3870 a3871 g3858 g3860 A3863 l3862.length n3865 t3928 _ ⟨HGl0.out.pass HS.out⟩ ⟨HS.out.begin⟩ HA3929).mono ?_
    rintro e_ w3930 ⟨rfl, hS⟩
    replace HS : Aside0 (Sep FF w [b7 g3858 g3860 a3868 a3869 a3870 a3871, b6 g3860 A3863 l3862.length n3865 t3928.2, r5 A3863 l3862.length n3865 l3862, b16 g3907 t3904.1 t3904.2.1 t3904.2.2.1 t3904.2.2.2.1 t3904.2.2.2.2.1 t3904.2.2.2.2.2.1 t3904.2.2.2.2.2.2.1] w3930) := ⟨HS.out.call hS⟩
    clear hS
    refine ⟨_, rfl, ?_⟩
    refine hK.out _ _ (blk_cellv (HS.out.at3) 3 rfl) (fun hHeld => ?_)
    clear hK K
    refine norm_ (a' := ?_) ?_ ?_
    rotate_left
    · show Act.put _ (some 19) _ = _
      simp only [Act.put, List.setIfInBounds_toArray, List.set_cons_zero, List.set_cons_succ, i64_w, i32_w]
      rfl
    try simp only [c3927b0, Bool.not_true, Bool.not_false]
    refine pure_ (i := 7) (N := some 20) (v := ?_) (a' := ?_) #[true, true, true, true, true, true, true, true, false] rfl rfl (by kernel_rfl) (fun _ _ _ h => h) (Or.inl ⟨by rfl, ?_⟩) ?_ ?_
    rotate_left
    · intro w'
      go_simp
      with_reducible rfl
    rotate_left
    · simp only [Act.put, List.setIfInBounds_toArray, List.set_cons_zero, List.set_cons_succ, i64_w, i32_w]
      rfl
    refine pure_ (i := 8) (N := some 21) (v := ?_) (a' := ?_) #[true, true, true, true, true, true, true, true, true] rfl rfl (by kernel_rfl) (fun _ _ _ h => h) (Or.inl ⟨by rfl, ?_⟩) ?_ ?_
    rotate_left
    · intro w'
      go_simp
      with_reducible rfl
    rotate_left
    · simp only [Act.put, List.setIfInBounds_toArray, List.set_cons_zero, List.set_cons_succ, i64_w, i32_w]
      rfl
    refine done_ (by kernel_rfl) ?_
    by_cases c3931 : t3904.2.2.2.1 = t3928.1
    · replace H := if_yes c3931 H
      have c3931b0 : (t3904.2.2.2.1 == t3928.1) = true := beq_iff_eq.mpr c3931
      have c3931b1 : (t3904.2.2.2.1 != t3928.1) = false := bne_eq_false_iff_eq.mpr c3931
      clear c3931
      replace HS : Aside0 (Sep FF w [b7 g3858 g3860 a3868 a3869 a3870 a3871, b6 g3860 A3863 l3862.length n3865 t3928.2, r5 A3863 l3862.length n3865 l3862] w3930) := ⟨HS.out.sub (.cons_cons _ (.cons_cons _ (.cons_cons _ (.cons _ .slnil))))⟩
      go_wp2_with fail
      obtain ⟨t3932, HA3933, H⟩ := bind_some H
      refine (ground_Ground_Word.calls l3862 t3928.2 a3868 a3869 a3870 a3871 (wrap64 (a3872 - 1)) 4 g3858 g3860 A3863 l3862.length n3865 t3932 _ ⟨HGl0.out.pass HS.out⟩ ⟨HS.out.begin⟩ HA3933).mono ?_
      rintro e_ w3934 ⟨rfl, hS⟩
      replace HS : Aside0 (Sep FF w [b7 g3858 g3860 a3868 a3869 a3870 a3871, b6 g3860 A3863 l3862.length n3865 t3932.2, r5 A3863 l3862.length n3865 l3862] w3934) := ⟨HS.out.call hS⟩
      clear hS
      go_wp2_with fail
      go_ret
      rw [← some_eq H]
      exact ⟨(by first | rfl | (simp [IntKind.wrap_u32]; done)), HS.out⟩
    · replace H := if_no c3931 H
      have c3931b0 : (t3904.2.2.2.1 == t3928.1) = false := beq_eq_false_iff_ne.mpr c3931
      have c3931b1 : (t3904.2.2.2.1 != t3928.1) = true := bne_iff_ne.mpr c3931
      clear c3931
      replace HS : Aside0 (Sep FF w [b7 g3858 g3860 a3868 a3869 a3870 a3871, b6 g3860 A3863 l3862.length n3865 t3928.2, r5 A3863 l3862.length n3865 l3862] w3930) := ⟨HS.out.sub (.cons_cons _ (.cons_cons _ (.cons_cons _ (.cons _ .slnil))))⟩
      go_wp2_with fail
      go_ret
      rw [← some_eq H]
      exact ⟨(by first | rfl | (simp [IntKind.wrap_u32]; done)), HS.out⟩
  · replace H := if_no c3927 H
    have c3927b0 : t3904.2.2.2.2.2.2.2.1 = false := by simpa using c3927
    have c3927b1 : (!t3904.2.2.2.2.2.2.2.1) = true := by rw [c3927b0]; rfl
    try rw [c3927b1]
    clear c3927
    try simp only [c3927b0, Bool.not_true, Bool.not_false]
    refine pure_ (i := 3) (N := some 16) (v := undef) (a' := ?_) #[true, true, true, true, false, false, false, false, false] rfl rfl (by kernel_rfl) (fun _ _ _ h => h) (Or.inr ⟨by rfl, rfl⟩) ?_ ?_
    rotate_left
    · simp only [Act.put, List.setIfInBounds_toArray, List.set_cons_zero, List.set_cons_succ, i64_w, i32_w]
      rfl
    try simp only [c3927b0, Bool.not_true, Bool.not_false]
    refine pure_ (i := 4) (N := some 17) (v := undef) (a' := ?_) #[true, true, true, true, true, false, false, false, false] rfl rfl (by kernel_rfl) (fun _ _ _ h => h) (Or.inr ⟨by rfl, rfl⟩) ?_ ?_
    rotate_left
    · simp only [Act.put, List.setIfInBounds_toArray, List.set_cons_zero, List.set_cons_succ, i64_w, i32_w]
      rfl
    try simp only [c3927b0, Bool.not_true, Bool.not_false]
    refine pure_ (i := 5) (N := some 18) (v := undef) (a' := ?_) #[true, true, true, true, true, true, false, false, false] rfl rfl (by kernel_rfl) (fun _ _ _ h => h) (Or.inr ⟨by rfl, rfl⟩) ?_ ?_
    rotate_left
    · simp only [Act.put, List.setIfInBounds_toArray, List.set_cons_zero, List.set_cons_succ, i64_w, i32_w]
      rfl
    try simp only [c3927b0, Bool.not_true, Bool.not_false]
    refine pure_ (i := 6) (N := some 19) (v := undef) (a' := ?_) #[true, true, true, true, true, true, true, false, false] rfl rfl (by kernel_rfl) (fun _ _ _ h => h) (Or.inr ⟨by rfl, rfl⟩) ?_ ?_
    rotate_left
    · simp only [Act.put, List.setIfInBounds_toArray, List.set_cons_zero, List.set_cons_succ, i64_w, i32_w]
      rfl
    try simp only [c3927b0, Bool.not_true, Bool.not_false]
    refine pure_ (i := 7) (N := some 20) (v := undef) (a' := ?_) #[true, true, true, true, true, true, true, true, false] rfl rfl (by kernel_rfl) (fun _ _ _ h => h) (Or.inr ⟨by rfl, rfl⟩) ?_ ?_
    rotate_left
    · simp only [Act.put, List.setIfInBounds_toArray, List.set_cons_zero, List.set_cons_succ, i64_w, i32_w]
      rfl
    refine pure_ (i := 8) (N := some 21) (v := ?_) (a' := ?_) #[true, true, true, true, true, true, true, true, true] rfl rfl (by kernel_rfl) (fun _ _ _ h => h) (Or.inl ⟨by rfl, ?_⟩) ?_ ?_
    rotate_left
    · intro w'
      go_simp
      with_reducible rfl
    rotate_left
    · simp only [Act.put, List.setIfInBounds_toArray, List.set_cons_zero, List.set_cons_succ, i64_w, i32_w]
      rfl
    refine done_ (by kernel_rfl) ?_
    replace HS : Aside0 (Sep FF w [b7 g3858 g3860 a3868 a3869 a3870 a3871, b6 g3860 A3863 l3862.length n3865 t3904.2.2.2.2.2.2.2.2, r5 A3863 l3862.length n3865 l3862] w3926) := ⟨HS.out.sub (.cons_cons _ (.cons_cons _ (.cons_cons _ (.cons _ .slnil))))⟩
    go_wp2_with fail
    go_ret
    rw [← some_eq H]
    exact ⟨(by first | rfl | (simp [IntKind.wrap_u32]; done)), HS.out⟩

set_option maxHeartbeats 30000000 in
set_option maxRecDepth 100000 in
theorem tint_Lighten.calls (l3738 : List Int) (a3743 : Int) (a3744 : Int) (a3745 : Int) (a3746 : Int) (a3747 : Int) (a3748 : Int) (g3734 : Nat) (g3736 : Nat) (A3739 : Option Addr) (m3740 : Nat) (n3741 : Nat) (r : Bool × Int × List Int) (w : World)  (HGl0 : Aside0 (Gl 0 #[.int .i64 0, .int .i64 0, .int .i64 0, .int .i64 0, .int .i64 0] (fps [b7 g3734 g3736 a3744 a3745 a3746 a3747, b6 g3736 A3739 m3740 n3741 a3743, r5 A3739 m3740 n3741 l3738]) w)) (HS : Aside0 (Sep (fps [b7 g3734 g3736 a3744 a3745 a3746 a3747, b6 g3736 A3739 m3740 n3741 a3743, r5 A3739 m3740 n3741 l3738]) w [b7 g3734 g3736 a3744 a3745 a3746 a3747, b6 g3736 A3739 m3740 n3741 a3743, r5 A3739 m3740 n3741 l3738] w)) (H : Aside0 (tint_Lighten.f l3738 a3743 a3744 a3745 a3746 a3747 a3748 = some r)) :
    Calls Tryz.prog 27 #[.pointer (some ⟨g3734, 0, none⟩), .int .i64 a3748] w fun e w' => e = .returned (.bool r.1) ∧ Sep (fps [b7 g3734 g3736 a3744 a3745 a3746 a3747, b6 g3736 A3739 m3740 n3741 a3743, r5 A3739 m3740 n3741 l3738]) w [b7 g3734 g3736 a3744 a3745 a3746 a3747, b6 g3736 A3739 m3740 n3741 r.2.1, r5 A3739 m3740 n3741 r.2.2] w' := by
  generalize (fps [b7 g3734 g3736 a3744 a3745 a3746 a3747, b6 g3736 A3739 m3740 n3741 a3743, r5 A3739 m3740 n3741 l3738]) = FF at HS HGl0 ⊢
  obtain rfl := (row_len (HS.out.at2)).symm
  unfold tint_Lighten.f at H
  go_enter Tryz.func27, Tryz.ntmps27
  go_wp2_with fail
  obtain ⟨t3942, HA3943, H⟩ := bind_some H
  refine (tint_Phase.calls l3738 a3743 a3744 a3745 a3746 a3747 g3734 g3736 A3739 l3738.length n3741 t3942 _ ⟨HGl0.out.pass HS.out⟩ ⟨HS.out.begin⟩ HA3943).mono ?_
  rintro e_ w3944 ⟨rfl, hS⟩
  replace HS : Aside0 (Sep FF w [b7 g3734 g3736 a3744 a3745 a3746 a3747, b6 g3736 A3739 l3738.length n3741 t3942.2, r5 A3739 l3738.length n3741 l3738] w3944) := ⟨HS.out.call hS⟩
  clear hS
  by_cases c3945 : t3942.1 = 1
  · replace H := if_yes c3945 H
    have c3945b0 : (t3942.1 == 1) = true := beq_iff_eq.mpr c3945
    have c3945b1 : (t3942.1 != 1) = false := bne_eq_false_iff_eq.mpr c3945
    clear c3945
    go_wp2_with fail
    obtain ⟨t3946, HA3947, H⟩ := bind_some H
    refine (tint_Black.calls l3738 t3942.2 a3744 a3745 a3746 a3747 a3748 g3734 g3736 A3739 l3738.length n3741 t3946 _ ⟨HGl0.out.pass HS.out⟩ ⟨HS.out.begin⟩ HA3947).mono ?_
    rintro e_ w3948 ⟨rfl, hS⟩
    replace HS : Aside0 (Sep FF w [b7 g3734 g3736 a3744 a3745 a3746 a3747, b6 g3736 A3739 l3738.length n3741 t3946.2, r5 A3739 l3738.length n3741 l3738] w3948) := ⟨HS.out.call hS⟩
    clear hS
    by_cases c3949 : t3946.1 = true
    · replace H := if_yes c3949 H
      have c3949b0 : t3946.1 = true := c3949
      have c3949b1 : (!t3946.1) = false := by rw [c3949b0]; rfl
      clear c3949
      go_wp2_with fail
      go_ret
      rw [← some_eq H]
      exact ⟨(by first | rfl | (simp [IntKind.wrap_u32]; done)), HS.out⟩
    · replace H := if_no c3949 H
      have c3949b0 : t3946.1 = false := by simpa using c3949
      have c3949b1 : (!t3946.1) = true := by rw [c3949b0]; rfl
      clear c3949
      go_wp2_with fail
      obtain ⟨t3950, HA3951, H⟩ := bind_some H
      refine (obj_Is.calls l3738 t3946.2 a3744 a3745 a3746 a3747 a3748 g3734 g3736 A3739 l3738.length n3741 t3950 _ ⟨HGl0.out.pass HS.out⟩ ⟨HS.out.begin⟩ HA3951).mono ?_
      rintro e_ w3952 ⟨rfl, hS⟩
      replace HS : Aside0 (Sep FF w [b7 g3734 g3736 a3744 a3745 a3746 a3747, b6 g3736 A3739 l3738.length n3741 t3950.2, r5 A3739 l3738.length n3741 l3738] w3952) := ⟨HS.out.call hS⟩
      clear hS
      by_cases c3953 : t3950.1 = true
      · replace H := if_yes c3953 H
        have c3953b0 : t3950.1 = true := c3953
        have c3953b1 : (!t3950.1) = false := by rw [c3953b0]; rfl
        try rw [c3953b1]
        clear c3953
        go_wp2_with fail
        obtain ⟨t3954, HA3955, H⟩ := bind_some H
        refine (tint_Shadow.calls l3738 t3950.2 a3744 a3745 a3746 a3747 a3748 g3734 g3736 A3739 l3738.length n3741 t3954 _ ⟨HGl0.out.pass HS.out⟩ ⟨HS.out.begin⟩ HA3955).mono ?_
        rintro e_ w3956 ⟨rfl, hS⟩
        replace HS : Aside0 (Sep FF w [b7 g3734 g3736 a3744 a3745 a3746 a3747, b6 g3736 A3739 l3738.length n3741 t3954.2, r5 A3739 l3738.length n3741 l3738] w3956) := ⟨HS.out.call hS⟩
        clear hS
        by_cases c3957 : t3954.1 > 0
        · replace H := if_yes c3957 H
          have c3957b0 : decide (0 < t3954.1) = true := decide_eq_true c3957
          clear c3957
          go_wp2_with fail
          obtain ⟨t3958, HA3959, H⟩ := bind_some H
          refine (ground_Ground_SetWord.calls l3738 t3954.2 a3744 a3745 a3746 a3747 (wrap64 (a3748 - 1)) 4 ((wrap64 (t3954.1 - 1)) % 4294967296) g3734 g3736 A3739 l3738.length n3741 t3958 _ ⟨HGl0.out.pass HS.out⟩ ⟨HS.out.begin⟩ HA3959).mono ?_
          rintro e_ w3960 ⟨rfl, hS⟩
          replace HS : Aside0 (Sep FF w [b7 g3734 g3736 a3744 a3745 a3746 a3747, b6 g3736 A3739 l3738.length n3741 t3958.2.1, r5 A3739 l3738.length n3741 t3958.2.2] w3960) := ⟨HS.out.call hS⟩
          clear hS
          go_wp2_with fail
          go_ret
          rw [← some_eq H]
          exact ⟨(by first | rfl | (simp [IntKind.wrap_u32]; done)), HS.out⟩
        · replace H := if_no c3957 H
          have c3957b0 : decide (0 < t3954.1) = false := decide_eq_false c3957
          clear c3957
          go_wp2_with fail
          go_ret
          rw [← some_eq H]
          exact ⟨(by first | rfl | (simp [IntKind.wrap_u32]; done)), HS.out⟩
      · replace H := if_no c3953 H
        have c3953b0 : t3950.1 = false := by simpa using c3953
        have c3953b1 : (!t3950.1) = true := by rw [c3953b0]; rfl
        try rw [c3953b1]
        clear c3953
        go_wp2_with fail
        go_ret
        rw [← some_eq H]
        exact ⟨(by first | rfl | (simp [IntKind.wrap_u32]; done)), HS.out⟩
  · replace H := if_no c3945 H
    have c3945b0 : (t3942.1 == 1) = false := beq_eq_false_iff_ne.mpr c3945
    have c3945b1 : (t3942.1 != 1) = true := bne_iff_ne.mpr c3945
    clear c3945
    by_cases c3961 : t3942.1 = 2
    · replace H := if_yes c3961 H
      have c3961b0 : (t3942.1 == 2) = true := beq_iff_eq.mpr c3961
      have c3961b1 : (t3942.1 != 2) = false := bne_eq_false_iff_eq.mpr c3961
      clear c3961
      go_wp2_with fail
      obtain ⟨t3946, HA3962, H⟩ := bind_some H
      refine (tint_Black.calls l3738 t3942.2 a3744 a3745 a3746 a3747 a3748 g3734 g3736 A3739 l3738.length n3741 t3946 _ ⟨HGl0.out.pass HS.out⟩ ⟨HS.out.begin⟩ HA3962).mono ?_
      rintro e_ w3963 ⟨rfl, hS⟩
      replace HS : Aside0 (Sep FF w [b7 g3734 g3736 a3744 a3745 a3746 a3747, b6 g3736 A3739 l3738.length n3741 t3946.2, r5 A3739 l3738.length n3741 l3738] w3963) := ⟨HS.out.call hS⟩
      clear hS
      by_cases c3964 : t3946.1 = true
      · replace H := if_yes c3964 H
        have c3964b0 : t3946.1 = true := c3964
        have c3964b1 : (!t3946.1) = false := by rw [c3964b0]; rfl
        clear c3964
        go_wp2_with fail
        go_ret
        rw [← some_eq H]
        exact ⟨(by first | rfl | (simp [IntKind.wrap_u32]; done)), HS.out⟩
      · replace H := if_no c3964 H
        have c3964b0 : t3946.1 = false := by simpa using c3964
        have c3964b1 : (!t3946.1) = true := by rw [c3964b0]; rfl
        clear c3964
        go_wp2_with fail
        obtain ⟨t3950, HA3965, H⟩ := bind_some H
        refine (obj_Is.calls l3738 t3946.2 a3744 a3745 a3746 a3747 a3748 g3734 g3736 A3739 l3738.length n3741 t3950 _ ⟨HGl0.out.pass HS.out⟩ ⟨HS.out.begin⟩ HA3965).mono ?_
        rintro e_ w3966 ⟨rfl, hS⟩
        replace HS : Aside0 (Sep FF w [b7 g3734 g3736 a3744 a3745 a3746 a3747, b6 g3736 A3739 l3738.length n3741 t3950.2, r5 A3739 l3738.length n3741 l3738] w3966) := ⟨HS.out.call hS⟩
        clear hS
        by_cases c3967 : t3950.1 = true
        · replace H := if_yes c3967 H
          have c3967b0 : t3950.1 = true := c3967
          have c3967b1 : (!t3950.1) = false := by rw [c3967b0]; rfl
          try rw [c3967b1]
          clear c3967
          go_wp2_with fail
          obtain ⟨t3954, HA3968, H⟩ := bind_some H
          refine (tint_Shadow.calls l3738 t3950.2 a3744 a3745 a3746 a3747 a3748 g3734 g3736 A3739 l3738.length n3741 t3954 _ ⟨HGl0.out.pass HS.out⟩ ⟨HS.out.begin⟩ HA3968).mono ?_
          rintro e_ w3969 ⟨rfl, hS⟩
          replace HS : Aside0 (Sep FF w [b7 g3734 g3736 a3744 a3745 a3746 a3747, b6 g3736 A3739 l3738.length n3741 t3954.2, r5 A3739 l3738.length n3741 l3738] w3969) := ⟨HS.out.call hS⟩
          clear hS
          by_cases c3970 : t3954.1 > 0
          · replace H := if_yes c3970 H
            have c3970b0 : decide (0 < t3954.1) = true := decide_eq_true c3970
            clear c3970
            go_wp2_with fail
            obtain ⟨t3958, HA3971, H⟩ := bind_some H
            refine (ground_Ground_SetWord.calls l3738 t3954.2 a3744 a3745 a3746 a3747 (wrap64 (a3748 - 1)) 4 ((wrap64 (t3954.1 - 1)) % 4294967296) g3734 g3736 A3739 l3738.length n3741 t3958 _ ⟨HGl0.out.pass HS.out⟩ ⟨HS.out.begin⟩ HA3971).mono ?_
            rintro e_ w3972 ⟨rfl, hS⟩
            replace HS : Aside0 (Sep FF w [b7 g3734 g3736 a3744 a3745 a3746 a3747, b6 g3736 A3739 l3738.length n3741 t3958.2.1, r5 A3739 l3738.length n3741 t3958.2.2] w3972) := ⟨HS.out.call hS⟩
            clear hS
            go_wp2_with fail
            go_ret
            rw [← some_eq H]
            exact ⟨(by first | rfl | (simp [IntKind.wrap_u32]; done)), HS.out⟩
          · replace H := if_no c3970 H
            have c3970b0 : decide (0 < t3954.1) = false := decide_eq_false c3970
            clear c3970
            go_wp2_with fail
            go_ret
            rw [← some_eq H]
            exact ⟨(by first | rfl | (simp [IntKind.wrap_u32]; done)), HS.out⟩
        · replace H := if_no c3967 H
          have c3967b0 : t3950.1 = false := by simpa using c3967
          have c3967b1 : (!t3950.1) = true := by rw [c3967b0]; rfl
          try rw [c3967b1]
          clear c3967
          go_wp2_with fail
          go_ret
          rw [← some_eq H]
          exact ⟨(by first | rfl | (simp [IntKind.wrap_u32]; done)), HS.out⟩
    · replace H := if_no c3961 H
      have c3961b0 : (t3942.1 == 2) = false := beq_eq_false_iff_ne.mpr c3961
      have c3961b1 : (t3942.1 != 2) = true := bne_iff_ne.mpr c3961
      clear c3961
      go_wp2_with fail
      go_ret
      rw [← some_eq H]
      exact ⟨(by first | rfl | (simp [IntKind.wrap_u32]; done)), HS.out⟩

set_option maxHeartbeats 30000000 in
set_option maxRecDepth 100000 in
theorem tint_Paint_1.calls (a4117 : Int) (a4118 : Int) (a4119 : Int) (a4120 : Int) (a4121 : Int) (a4122 : Int) (a4123 : Int) (a4124 : Int) (g4116 : Nat) (r : Int) (w : World)  (HGl0 : Aside0 (Gl 0 #[.int .i64 0, .int .i64 0, .int .i64 0, .int .i64 0, .int .i64 0] (fps [b16 g4116 a4117 a4118 a4119 a4120 a4121 a4122 a4123]) w)) (HS : Aside0 (Sep (fps [b16 g4116 a4117 a4118 a4119 a4120 a4121 a4122 a4123]) w [b16 g4116 a4117 a4118 a4119 a4120 a4121 a4122 a4123] w)) (H : Aside0 (tint_Paint_1.f a4117 a4118 a4119 a4120 a4121 a4122 a4123 a4124 = some r)) :
    Calls Tryz.prog 59 #[.pointer (some ⟨g4116, 0, none⟩), .int .i64 a4124] w fun e w' => e = .returned (.tuple #[]) ∧ Sep (fps [b16 g4116 a4117 a4118 a4119 a4120 a4121 a4122 a4123]) w [b16 g4116 a4117 r a4119 a4120 a4121 a4122 a4123] w' := by
  generalize (fps [b16 g4116 a4117 a4118 a4119 a4120 a4121 a4122 a4123]) = FF at HS HGl0 ⊢
  unfold tint_Paint_1.f at H
  go_enter Tryz.func59, Tryz.ntmps59
  have hc4128 : w.cell? ⟨g4116, 1, none⟩ = some (.int .i64 a4118) := blk_cellv (HS.out.at0) 1 rfl
  have hz4129 : w.frozen? ⟨g4116, 1, none⟩ = false := blk_fz (HS.out.at0) 1
  go_wp2_with (first | ((with_reducible refine gate_store (t := 3) (p := 7) rfl ?_); refine store_event (w1 := (World.setCell w ⟨g4116, 1, none⟩ (.int .i64 a4124))) rfl (t := 3) (p := 7) rfl rfl ?hr ?_; (case hr => first | (go_simp; done) | (go_simp; rfl)); intro w4130 hst; clear hc4128 hz4129; have hq0 : Sep FF w [b16 g4116 a4117 a4124 a4119 a4120 a4121 a4122 a4123] (World.setCell w ⟨g4116, 1, none⟩ (.int .i64 a4124)) := (HS.out).set1 (l1 := []) (l2 := []) 1 (.int .i64 a4124); replace HS : Aside0 (Sep FF w [b16 g4116 a4117 a4124 a4119 a4120 a4121 a4122 a4123] w4130) := ⟨by rw [hst]; exact hq0⟩; clear hq0; clear hst))
  first | go_end0 | refine bodyPost_ret (results_none rfl _ _ _) rfl ?_
  rw [← some_eq H]
  exact ⟨rfl, HS.out⟩

set_option maxHeartbeats 30000000 in
set_option maxRecDepth 100000 in
theorem tint_change_F59.calls (k : Nat) (l4079 : List Int) (a4084 : Int) (a4085 : Int) (a4086 : Int) (a4087 : Int) (a4088 : Int) (a4089 : Int) (g4075 : Nat) (g4077 : Nat) (A4080 : Option Addr) (m4081 : Nat) (n4082 : Nat) (r : Bool × Int × List Int) (w : World)  (HGl0 : Aside0 (Gl 0 #[.int .i64 0, .int .i64 0, .int .i64 0, .int .i64 0, .int .i64 0] (fps [b7 g4075 g4077 a4085 a4086 a4087 a4088, b6 g4077 A4080 m4081 n4082 a4084, r5 A4080 m4081 n4082 l4079]) w)) (HS : Aside0 (Sep (fps [b7 g4075 g4077 a4085 a4086 a4087 a4088, b6 g4077 A4080 m4081 n4082 a4084, r5 A4080 m4081 n4082 l4079]) w [b7 g4075 g4077 a4085 a4086 a4087 a4088, b6 g4077 A4080 m4081 n4082 a4084, r5 A4080 m4081 n4082 l4079] w)) (H : Aside0 (tint_change_F59.f k l4079 a4084 a4085 a4086 a4087 a4088 a4089 = some r)) :
    Calls Tryz.prog 51 #[.pointer (some ⟨g4075, 0, none⟩), .int .i64 a4089, .func (.func 59) #[] #[]] w fun e w' => e = .returned (.bool r.1) ∧ Sep (fps [b7 g4075 g4077 a4085 a4086 a4087 a4088, b6 g4077 A4080 m4081 n4082 a4084, r5 A4080 m4081 n4082 l4079]) w [b7 g4075 g4077 a4085 a4086 a4087 a4088, b6 g4077 A4080 m4081 n4082 r.2.1, r5 A4080 m4081 n4082 r.2.2] w' := by
  generalize (fps [b7 g4075 g4077 a4085 a4086 a4087 a4088, b6 g4077 A4080 m4081 n4082 a4084, r5 A4080 m4081 n4082 l4079]) = FF at HS HGl0 ⊢
  obtain rfl := (row_len (HS.out.at2)).symm
  unfold tint_change_F59.f at H
  go_enter Tryz.func51, Tryz.ntmps51
  go_wp2_with fail
  obtain ⟨t4148, HA4149, H⟩ := bind_some H
  refine (tint_of.calls l4079 a4084 a4085 a4086 a4087 a4088 a4089 g4075 g4077 A4080 l4079.length n4082 t4148 _ ⟨HGl0.out.pass HS.out⟩ ⟨HS.out.begin⟩ HA4149).mono ?_
  rintro e_ w4150 ⟨rfl, hS⟩
  replace HS : Aside0 (Sep FF w [b7 g4075 g4077 a4085 a4086 a4087 a4088, b6 g4077 A4080 l4079.length n4082 t4148.2.2.2.2.2.2.2.2, r5 A4080 l4079.length n4082 l4079] w4150) := ⟨HS.out.call hS⟩
  clear hS
  by_cases c4169 : t4148.2.2.2.2.2.2.2.1 = true
  · replace H := if_yes c4169 H
    have c4169b0 : t4148.2.2.2.2.2.2.2.1 = true := c4169
    have c4169b1 : (!t4148.2.2.2.2.2.2.2.1) = false := by rw [c4169b0]; rfl
    try rw [c4169b1]
    clear c4169
    go_wp2_with (first | ((with_reducible refine gate_dst (N := 7) rfl ?_); refine box_on ?hg (N := 7) ?hd (cs := #[.int .i64 0, .int .i64 0, .int .i64 0, .int .i64 0, .int .i64 0, .int .i64 0, .int .i64 0]) (t := 79) ?hr ?_; (case hd => rfl); (case hg => rfl); (case hr => first | (go_simp; done) | (go_simp; rfl)); intro g4151 hg w4152 hbox hb; replace HS : Aside0 (Sep FF w [b7 g4075 g4077 a4085 a4086 a4087 a4088, b6 g4077 A4080 l4079.length n4082 t4148.2.2.2.2.2.2.2.2, r5 A4080 l4079.length n4082 l4079, b16 g4151 0 0 0 0 0 0 0] w4152) := ⟨HS.out.box hg hbox hb⟩; clear hg hbox hb; have hc4154 : w4152.cell? ⟨g4151, 0, none⟩ = some (.int .i64 0) := blk_cellv (HS.out.at3) 0 rfl; have hz4155 : w4152.frozen? ⟨g4151, 0, none⟩ = false := blk_fz (HS.out.at3) 0; have hc4156 : w4152.cell? ⟨g4151, 1, none⟩ = some (.int .i64 0) := blk_cellv (HS.out.at3) 1 rfl; have hz4157 : w4152.frozen? ⟨g4151, 1, none⟩ = false := blk_fz (HS.out.at3) 1; have hc4158 : w4152.cell? ⟨g4151, 2, none⟩ = some (.int .i64 0) := blk_cellv (HS.out.at3) 2 rfl; have hz4159 : w4152.frozen? ⟨g4151, 2, none⟩ = false := blk_fz (HS.out.at3) 2; have hc4160 : w4152.cell? ⟨g4151, 3, none⟩ = some (.int .i64 0) := blk_cellv (HS.out.at3) 3 rfl; have hz4161 : w4152.frozen? ⟨g4151, 3, none⟩ = false := blk_fz (HS.out.at3) 3; have hc4162 : w4152.cell? ⟨g4151, 4, none⟩ = some (.int .i64 0) := blk_cellv (HS.out.at3) 4 rfl; have hz4163 : w4152.frozen? ⟨g4151, 4, none⟩ = false := blk_fz (HS.out.at3) 4; have hc4164 : w4152.cell? ⟨g4151, 5, none⟩ = some (.int .i64 0) := blk_cellv (HS.out.at3) 5 rfl; have hz4165 : w4152.frozen? ⟨g4151, 5, none⟩ = false := blk_fz (HS.out.at3) 5; have hc4166 : w4152.cell? ⟨g4151, 6, none⟩ = some (.int .i64 0) := blk_cellv (HS.out.at3) 6 rfl; have hz4167 : w4152.frozen? ⟨g4151, 6, none⟩ = false := blk_fz (HS.out.at3) 6) | ((with_reducible refine gate_store (t := 79) (p := 7) rfl ?_); refine store_event (w1 := (World.setCell (World.setCell (World.setCell (World.setCell (World.setCell (World.setCell (World.setCell w4152 ⟨g4151, 0, none⟩ (.int .i64 t4148.1)) ⟨g4151, 1, none⟩ (.int .i64 t4148.2.1)) ⟨g4151, 2, none⟩ (.int .i64 t4148.2.2.1)) ⟨g4151, 3, none⟩ (.int .i64 t4148.2.2.2.1)) ⟨g4151, 4, none⟩ (.int .i64 t4148.2.2.2.2.1)) ⟨g4151, 5, none⟩ (.int .i64 t4148.2.2.2.2.2.1)) ⟨g4151, 6, none⟩ (.int .i64 t4148.2.2.2.2.2.2.1))) rfl (t := 79) (p := 7) rfl rfl ?hr ?_; (case hr => first | (go_simp; done) | (go_simp; rfl)); intro w4168 hst; clear hc4154 hz4155 hc4156 hz4157 hc4158 hz4159 hc4160 hz4161 hc4162 hz4163 hc4164 hz4165 hc4166 hz4167; replace HS : Aside0 (Sep FF w [b7 g4075 g4077 a4085 a4086 a4087 a4088, b6 g4077 A4080 l4079.length n4082 t4148.2.2.2.2.2.2.2.2, r5 A4080 l4079.length n4082 l4079, b16 g4151 t4148.1 t4148.2.1 t4148.2.2.1 t4148.2.2.2.1 t4148.2.2.2.2.1 t4148.2.2.2.2.2.1 t4148.2.2.2.2.2.2.1] w4168) := ⟨by rw [hst]; exact HS.out.setAll (l1 := [b7 g4075 g4077 a4085 a4086 a4087 a4088, b6 g4077 A4080 l4079.length n4082 t4148.2.2.2.2.2.2.2.2, r5 A4080 l4079.length n4082 l4079]) (l2 := []) [.int .i64 t4148.1, .int .i64 t4148.2.1, .int .i64 t4148.2.2.1, .int .i64 t4148.2.2.2.1, .int .i64 t4148.2.2.2.2.1, .int .i64 t4148.2.2.2.2.2.1, .int .i64 t4148.2.2.2.2.2.2.1] rfl⟩; clear hst))
    obtain ⟨t4170, HA4171, H⟩ := bind_some H
    refine (tint_Parity.calls l4079 t4148.2.2.2.2.2.2.2.2 a4085 a4086 a4087 a4088 g4075 g4077 A4080 l4079.length n4082 t4170 _ ⟨HGl0.out.pass HS.out⟩ ⟨HS.out.begin⟩ HA4171).mono ?_
    rintro e_ w4172 ⟨rfl, hS⟩
    replace HS : Aside0 (Sep FF w [b7 g4075 g4077 a4085 a4086 a4087 a4088, b6 g4077 A4080 l4079.length n4082 t4170.2, r5 A4080 l4079.length n4082 l4079, b16 g4151 t4148.1 t4148.2.1 t4148.2.2.1 t4148.2.2.2.1 t4148.2.2.2.2.1 t4148.2.2.2.2.2.1 t4148.2.2.2.2.2.2.1] w4172) := ⟨HS.out.call hS⟩
    clear hS
    go_wp2_with fail
    replace HS : Aside0 (Sep FF w [b16 g4151 t4148.1 t4148.2.1 t4148.2.2.1 t4148.2.2.2.1 t4148.2.2.2.2.1 t4148.2.2.2.2.2.1 t4148.2.2.2.2.2.2.1, b7 g4075 g4077 a4085 a4086 a4087 a4088, b6 g4077 A4080 l4079.length n4082 t4170.2, r5 A4080 l4079.length n4082 l4079] w4172) := ⟨HS.out.front 3 (by simp)⟩
    obtain ⟨t4173, HA4174, H⟩ := bind_some H
    refine (tint_Paint_1.calls t4148.1 t4148.2.1 t4148.2.2.1 t4148.2.2.2.1 t4148.2.2.2.2.1 t4148.2.2.2.2.2.1 t4148.2.2.2.2.2.2.1 t4170.1 g4151 t4173 _ ⟨HGl0.out.pass HS.out⟩ ⟨HS.out.begin⟩ HA4174).mono ?_
    rintro e_ w4175 ⟨rfl, hS⟩
    replace HS : Aside0 (Sep FF w [b16 g4151 t4148.1 t4173 t4148.2.2.1 t4148.2.2.2.1 t4148.2.2.2.2.1 t4148.2.2.2.2.2.1 t4148.2.2.2.2.2.2.1, b7 g4075 g4077 a4085 a4086 a4087 a4088, b6 g4077 A4080 l4079.length n4082 t4170.2, r5 A4080 l4079.length n4082 l4079] w4175) := ⟨HS.out.call hS⟩
    clear hS
    have hc4176 : w4175.cell? ⟨g4151, 0, none⟩ = some (.int .i64 t4148.1) := blk_cellv (HS.out.at0) 0 rfl
    have hc4177 : w4175.cell? ⟨g4151, 1, none⟩ = some (.int .i64 t4173) := blk_cellv (HS.out.at0) 1 rfl
    have hc4178 : w4175.cell? ⟨g4151, 2, none⟩ = some (.int .i64 t4148.2.2.1) := blk_cellv (HS.out.at0) 2 rfl
    have hc4179 : w4175.cell? ⟨g4151, 3, none⟩ = some (.int .i64 t4148.2.2.2.1) := blk_cellv (HS.out.at0) 3 rfl
    have hc4180 : w4175.cell? ⟨g4151, 4, none⟩ = some (.int .i64 t4148.2.2.2.2.1) := blk_cellv (HS.out.at0) 4 rfl
    have hc4181 : w4175.cell? ⟨g4151, 5, none⟩ = some (.int .i64 t4148.2.2.2.2.2.1) := blk_cellv (HS.out.at0) 5 rfl
    have hc4182 : w4175.cell? ⟨g4151, 6, none⟩ = some (.int .i64 t4148.2.2.2.2.2.2.1) := blk_cellv (HS.out.at0) 6 rfl
    go_wp2_with fail
    clear hc4176 hc4177 hc4178 hc4179 hc4180 hc4181 hc4182
    obtain ⟨t4183, HA4184, H⟩ := bind_some H
    refine (tag_Pack.calls _ t4148.1 t4173 t4148.2.2.1 t4148.2.2.2.1 t4148.2.2.2.2.1 t4148.2.2.2.2.2.1 t4148.2.2.2.2.2.2.1 t4183 _ ⟨HGl0.out.pass (l := []) HS.out⟩ ⟨Sep.start _⟩ HA4184).mono ?_
    rintro e_ w4185 ⟨rfl, hS⟩
    replace HS : Aside0 (Sep FF w [b16 g4151 t4148.1 t4173 t4148.2.2.1 t4148.2.2.2.1 t4148.2.2.2.2.1 t4148.2.2.2.2.2.1 t4148.2.2.2.2.2.2.1, b7 g4075 g4077 a4085 a4086 a4087 a4088, b6 g4077 A4080 l4079.length n4082 t4170.2, r5 A4080 l4079.length n4082 l4079] w4185) := ⟨HS.out.call hS⟩
    clear hS
    by_cases c4186 : t4183.2 = 0
    · replace H := if_yes c4186 H
      have c4186b0 : (t4183.2 == 0) = true := beq_iff_eq.mpr c4186
      have c4186b1 : (t4183.2 != 0) = false := bne_eq_false_iff_eq.mpr c4186
      clear c4186
      replace HS : Aside0 (Sep FF w [b7 g4075 g4077 a4085 a4086 a4087 a4088, b6 g4077 A4080 l4079.length n4082 t4170.2, r5 A4080 l4079.length n4082 l4079] w4185) := ⟨HS.out.sub (.cons _ (.cons_cons _ (.cons_cons _ (.cons_cons _ .slnil))))⟩
      go_wp2_with fail
      obtain ⟨t4187, HA4188, H⟩ := bind_some H
      refine (ground_Ground_SetWord.calls l4079 t4170.2 a4085 a4086 a4087 a4088 (wrap64 (a4089 - 1)) 0 t4183.1 g4075 g4077 A4080 l4079.length n4082 t4187 _ ⟨HGl0.out.pass HS.out⟩ ⟨HS.out.begin⟩ HA4188).mono ?_
      rintro e_ w4189 ⟨rfl, hS⟩
      replace HS : Aside0 (Sep FF w [b7 g4075 g4077 a4085 a4086 a4087 a4088, b6 g4077 A4080 l4079.length n4082 t4187.2.1, r5 A4080 l4079.length n4082 t4187.2.2] w4189) := ⟨HS.out.call hS⟩
      clear hS
      go_wp2_with fail
      go_ret
      rw [← some_eq H]
      exact ⟨(by first | rfl | (simp [IntKind.wrap_u32]; done)), HS.out⟩
    · replace H := if_no c4186 H
      have c4186b0 : (t4183.2 == 0) = false := beq_eq_false_iff_ne.mpr c4186
      have c4186b1 : (t4183.2 != 0) = true := bne_iff_ne.mpr c4186
      clear c4186
      replace HS : Aside0 (Sep FF w [b7 g4075 g4077 a4085 a4086 a4087 a4088, b6 g4077 A4080 l4079.length n4082 t4170.2, r5 A4080 l4079.length n4082 l4079] w4185) := ⟨HS.out.sub (.cons _ (.cons_cons _ (.cons_cons _ (.cons_cons _ .slnil))))⟩
      go_wp2_with fail
      go_ret
      rw [← some_eq H]
      exact ⟨(by first | rfl | (simp [IntKind.wrap_u32]; done)), HS.out⟩
  · replace H := if_no c4169 H
    have c4169b0 : t4148.2.2.2.2.2.2.2.1 = false := by simpa using c4169
    have c4169b1 : (!t4148.2.2.2.2.2.2.2.1) = true := by rw [c4169b0]; rfl
    try rw [c4169b1]
    clear c4169
    go_wp2_with (first | ((with_reducible refine gate_dst (N := 7) rfl ?_); refine box_on ?hg (N := 7) ?hd (cs := #[.int .i64 0, .int .i64 0, .int .i64 0, .int .i64 0, .int .i64 0, .int .i64 0, .int .i64 0]) (t := 79) ?hr ?_; (case hd => rfl); (case hg => rfl); (case hr => first | (go_simp; done) | (go_simp; rfl)); intro g4151 hg w4152 hbox hb; replace HS : Aside0 (Sep FF w [b7 g4075 g4077 a4085 a4086 a4087 a4088, b6 g4077 A4080 l4079.length n4082 t4148.2.2.2.2.2.2.2.2, r5 A4080 l4079.length n4082 l4079, b16 g4151 0 0 0 0 0 0 0] w4152) := ⟨HS.out.box hg hbox hb⟩; clear hg hbox hb; have hc4154 : w4152.cell? ⟨g4151, 0, none⟩ = some (.int .i64 0) := blk_cellv (HS.out.at3) 0 rfl; have hz4155 : w4152.frozen? ⟨g4151, 0, none⟩ = false := blk_fz (HS.out.at3) 0; have hc4156 : w4152.cell? ⟨g4151, 1, none⟩ = some (.int .i64 0) := blk_cellv (HS.out.at3) 1 rfl; have hz4157 : w4152.frozen? ⟨g4151, 1, none⟩ = false := blk_fz (HS.out.at3) 1; have hc4158 : w4152.cell? ⟨g4151, 2, none⟩ = some (.int .i64 0) := blk_cellv (HS.out.at3) 2 rfl; have hz4159 : w4152.frozen? ⟨g4151, 2, none⟩ = false := blk_fz (HS.out.at3) 2; have hc4160 : w4152.cell? ⟨g4151, 3, none⟩ = some (.int .i64 0) := blk_cellv (HS.out.at3) 3 rfl; have hz4161 : w4152.frozen? ⟨g4151, 3, none⟩ = false := blk_fz (HS.out.at3) 3; have hc4162 : w4152.cell? ⟨g4151, 4, none⟩ = some (.int .i64 0) := blk_cellv (HS.out.at3) 4 rfl; have hz4163 : w4152.frozen? ⟨g4151, 4, none⟩ = false := blk_fz (HS.out.at3) 4; have hc4164 : w4152.cell? ⟨g4151, 5, none⟩ = some (.int .i64 0) := blk_cellv (HS.out.at3) 5 rfl; have hz4165 : w4152.frozen? ⟨g4151, 5, none⟩ = false := blk_fz (HS.out.at3) 5; have hc4166 : w4152.cell? ⟨g4151, 6, none⟩ = some (.int .i64 0) := blk_cellv (HS.out.at3) 6 rfl; have hz4167 : w4152.frozen? ⟨g4151, 6, none⟩ = false := blk_fz (HS.out.at3) 6) | ((with_reducible refine gate_store (t := 79) (p := 7) rfl ?_); refine store_event (w1 := (World.setCell (World.setCell (World.setCell (World.setCell (World.setCell (World.setCell (World.setCell w4152 ⟨g4151, 0, none⟩ (.int .i64 t4148.1)) ⟨g4151, 1, none⟩ (.int .i64 t4148.2.1)) ⟨g4151, 2, none⟩ (.int .i64 t4148.2.2.1)) ⟨g4151, 3, none⟩ (.int .i64 t4148.2.2.2.1)) ⟨g4151, 4, none⟩ (.int .i64 t4148.2.2.2.2.1)) ⟨g4151, 5, none⟩ (.int .i64 t4148.2.2.2.2.2.1)) ⟨g4151, 6, none⟩ (.int .i64 t4148.2.2.2.2.2.2.1))) rfl (t := 79) (p := 7) rfl rfl ?hr ?_; (case hr => first | (go_simp; done) | (go_simp; rfl)); intro w4168 hst; clear hc4154 hz4155 hc4156 hz4157 hc4158 hz4159 hc4160 hz4161 hc4162 hz4163 hc4164 hz4165 hc4166 hz4167; replace HS : Aside0 (Sep FF w [b7 g4075 g4077 a4085 a4086 a4087 a4088, b6 g4077 A4080 l4079.length n4082 t4148.2.2.2.2.2.2.2.2, r5 A4080 l4079.length n4082 l4079, b16 g4151 t4148.1 t4148.2.1 t4148.2.2.1 t4148.2.2.2.1 t4148.2.2.2.2.1 t4148.2.2.2.2.2.1 t4148.2.2.2.2.2.2.1] w4168) := ⟨by rw [hst]; exact HS.out.setAll (l1 := [b7 g4075 g4077 a4085 a4086 a4087 a4088, b6 g4077 A4080 l4079.length n4082 t4148.2.2.2.2.2.2.2.2, r5 A4080 l4079.length n4082 l4079]) (l2 := []) [.int .i64 t4148.1, .int .i64 t4148.2.1, .int .i64 t4148.2.2.1, .int .i64 t4148.2.2.2.1, .int .i64 t4148.2.2.2.2.1, .int .i64 t4148.2.2.2.2.2.1, .int .i64 t4148.2.2.2.2.2.2.1] rfl⟩; clear hst; replace HS : Aside0 (Sep FF w [b7 g4075 g4077 a4085 a4086 a4087 a4088, b6 g4077 A4080 l4079.length n4082 t4148.2.2.2.2.2.2.2.2, r5 A4080 l4079.length n4082 l4079] w4168) := ⟨HS.out.sub (.cons_cons _ (.cons_cons _ (.cons_cons _ (.cons _ .slnil))))⟩))
    go_ret
    rw [← some_eq H]
    exact ⟨(by first | rfl | (simp [IntKind.wrap_u32]; done)), HS.out⟩

set_option maxHeartbeats 30000000 in
set_option maxRecDepth 100000 in
theorem tint_Paint.calls (k : Nat) (l4063 : List Int) (a4068 : Int) (a4069 : Int) (a4070 : Int) (a4071 : Int) (a4072 : Int) (a4073 : Int) (g4059 : Nat) (g4061 : Nat) (A4064 : Option Addr) (m4065 : Nat) (n4066 : Nat) (r : Bool × Int × List Int) (w : World)  (HGl0 : Aside0 (Gl 0 #[.int .i64 0, .int .i64 0, .int .i64 0, .int .i64 0, .int .i64 0] (fps [b7 g4059 g4061 a4069 a4070 a4071 a4072, b6 g4061 A4064 m4065 n4066 a4068, r5 A4064 m4065 n4066 l4063]) w)) (HS : Aside0 (Sep (fps [b7 g4059 g4061 a4069 a4070 a4071 a4072, b6 g4061 A4064 m4065 n4066 a4068, r5 A4064 m4065 n4066 l4063]) w [b7 g4059 g4061 a4069 a4070 a4071 a4072, b6 g4061 A4064 m4065 n4066 a4068, r5 A4064 m4065 n4066 l4063] w)) (H : Aside0 (tint_Paint.f k l4063 a4068 a4069 a4070 a4071 a4072 a4073 = some r)) :
    Calls Tryz.prog 24 #[.pointer (some ⟨g4059, 0, none⟩), .int .i64 a4073] w fun e w' => e = .returned (.bool r.1) ∧ Sep (fps [b7 g4059 g4061 a4069 a4070 a4071 a4072, b6 g4061 A4064 m4065 n4066 a4068, r5 A4064 m4065 n4066 l4063]) w [b7 g4059 g4061 a4069 a4070 a4071 a4072, b6 g4061 A4064 m4065 n4066 r.2.1, r5 A4064 m4065 n4066 r.2.2] w' := by
  generalize (fps [b7 g4059 g4061 a4069 a4070 a4071 a4072, b6 g4061 A4064 m4065 n4066 a4068, r5 A4064 m4065 n4066 l4063]) = FF at HS HGl0 ⊢
  obtain rfl := (row_len (HS.out.at2)).symm
  unfold tint_Paint.f at H
  go_enter Tryz.func24, Tryz.ntmps24
  go_wp2_with fail
  obtain ⟨t4193, HA4194, H⟩ := bind_some H
  refine (tint_change_F59.calls _ l4063 a4068 a4069 a4070 a4071 a4072 a4073 g4059 g4061 A4064 l4063.length n4066 t4193 _ ⟨HGl0.out.pass HS.out⟩ ⟨HS.out.begin⟩ HA4194).mono ?_
  rintro e_ w4195 ⟨rfl, hS⟩
  replace HS : Aside0 (Sep FF w [b7 g4059 g4061 a4069 a4070 a4071 a4072, b6 g4061 A4064 l4063.length n4066 t4193.2.1, r5 A4064 l4063.length n4066 t4193.2.2] w4195) := ⟨HS.out.call hS⟩
  clear hS
  go_wp2_with fail
  go_ret
  rw [← some_eq H]
  exact ⟨(by first | rfl | (simp [IntKind.wrap_u32]; done)), HS.out⟩

set_option maxHeartbeats 30000000 in
set_option maxRecDepth 100000 in
theorem ring_marked.calls (l4221 : List Int) (a4226 : Int) (a4227 : Int) (a4228 : Int) (a4229 : Int) (a4230 : Int) (a4231 : Int) (a4232 : Int) (g4217 : Nat) (g4219 : Nat) (A4222 : Option Addr) (m4223 : Nat) (n4224 : Nat) (r : Int × Int × Int × Int × Int × Int × Int × Bool × Int) (w : World)  (HGl0 : Aside0 (Gl 0 #[.int .i64 0, .int .i64 0, .int .i64 0, .int .i64 0, .int .i64 0] (fps [b7 g4217 g4219 a4227 a4228 a4229 a4230, b6 g4219 A4222 m4223 n4224 a4226, r5 A4222 m4223 n4224 l4221]) w)) (HS : Aside0 (Sep (fps [b7 g4217 g4219 a4227 a4228 a4229 a4230, b6 g4219 A4222 m4223 n4224 a4226, r5 A4222 m4223 n4224 l4221]) w [b7 g4217 g4219 a4227 a4228 a4229 a4230, b6 g4219 A4222 m4223 n4224 a4226, r5 A4222 m4223 n4224 l4221] w)) (H : Aside0 (ring_marked.f l4221 a4226 a4227 a4228 a4229 a4230 a4231 a4232 = some r)) :
    Calls Tryz.prog 57 #[.pointer (some ⟨g4217, 0, none⟩), .int .i64 a4231, .int .i64 a4232] w fun e w' => e = .returned (.tuple #[.agg #[.int .i64 r.1, .int .i64 r.2.1, .int .i64 r.2.2.1, .int .i64 r.2.2.2.1, .int .i64 r.2.2.2.2.1, .int .i64 r.2.2.2.2.2.1, .int .i64 r.2.2.2.2.2.2.1], .bool r.2.2.2.2.2.2.2.1]) ∧ Sep (fps [b7 g4217 g4219 a4227 a4228 a4229 a4230, b6 g4219 A4222 m4223 n4224 a4226, r5 A4222 m4223 n4224 l4221]) w [b7 g4217 g4219 a4227 a4228 a4229 a4230, b6 g4219 A4222 m4223 n4224 r.2.2.2.2.2.2.2.2, r5 A4222 m4223 n4224 l4221] w' := by
  generalize (fps [b7 g4217 g4219 a4227 a4228 a4229 a4230, b6 g4219 A4222 m4223 n4224 a4226, r5 A4222 m4223 n4224 l4221]) = FF at HS HGl0 ⊢
  obtain rfl := (row_len (HS.out.at2)).symm
  unfold ring_marked.f at H
  go_enter Tryz.func57, Tryz.ntmps57
  by_cases c4338 : a4231 < 0
  · replace H := if_yes c4338 H
    have c4338b0 : decide (a4231 < 0) = true := decide_eq_true c4338
    clear c4338
    go_wp2_with (first | ((with_reducible refine gate_dst (N := 6) rfl ?_); refine box_on ?hg (N := 6) ?hd (cs := #[.int .i64 0, .int .i64 0, .int .i64 0, .int .i64 0, .int .i64 0, .int .i64 0, .int .i64 0]) (t := 79) ?hr ?_; (case hd => rfl); (case hg => rfl); (case hr => first | (go_simp; done) | (go_simp; rfl)); intro g4335 hg w4336 hbox hb; replace HS : Aside0 (Sep FF w [b7 g4217 g4219 a4227 a4228 a4229 a4230, b6 g4219 A4222 l4221.length n4224 a4226, r5 A4222 l4221.length n4224 l4221, b16 g4335 0 0 0 0 0 0 0] w4336) := ⟨HS.out.box hg hbox hb⟩; clear hg hbox hb; have hc4339 : w4336.cell? ⟨g4335, 0, none⟩ = some (.int .i64 0) := blk_cellv (HS.out.at3) 0 rfl; have hz4340 : w4336.frozen? ⟨g4335, 0, none⟩ = false := blk_fz (HS.out.at3) 0; have hc4341 : w4336.cell? ⟨g4335, 1, none⟩ = some (.int .i64 0) := blk_cellv (HS.out.at3) 1 rfl; have hz4342 : w4336.frozen? ⟨g4335, 1, none⟩ = false := blk_fz (HS.out.at3) 1; have hc4343 : w4336.cell? ⟨g4335, 2, none⟩ = some (.int .i64 0) := blk_cellv (HS.out.at3) 2 rfl; have hz4344 : w4336.frozen? ⟨g4335, 2, none⟩ = false := blk_fz (HS.out.at3) 2; have hc4345 : w4336.cell? ⟨g4335, 3, none⟩ = some (.int .i64 0) := blk_cellv (HS.out.at3) 3 rfl; have hz4346 : w4336.frozen? ⟨g4335, 3, none⟩ = false := blk_fz (HS.out.at3) 3; have hc4347 : w4336.cell? ⟨g4335, 4, none⟩ = some (.int .i64 0) := blk_cellv (HS.out.at3) 4 rfl; have hz4348 : w4336.frozen? ⟨g4335, 4, none⟩ = false := blk_fz (HS.out.at3) 4; have hc4349 : w4336.cell? ⟨g4335, 5, none⟩ = some (.int .i64 0) := blk_cellv (HS.out.at3) 5 rfl; have hz4350 : w4336.frozen? ⟨g4335, 5, none⟩ = false := blk_fz (HS.out.at3) 5; have hc4351 : w4336.cell? ⟨g4335, 6, none⟩ = some (.int .i64 0) := blk_cellv (HS.out.at3) 6 rfl; have hz4352 : w4336.frozen? ⟨g4335, 6, none⟩ = false := blk_fz (HS.out.at3) 6) | ((with_reducible refine gate_store (t := 79) (p := 6) rfl ?_); refine store_event (w1 := (World.setCell (World.setCell (World.setCell (World.setCell (World.setCell (World.setCell (World.setCell w4336 ⟨g4335, 0, none⟩ (.int .i64 0)) ⟨g4335, 1, none⟩ (.int .i64 0)) ⟨g4335, 2, none⟩ (.int .i64 0)) ⟨g4335, 3, none⟩ (.int .i64 0)) ⟨g4335, 4, none⟩ (.int .i64 0)) ⟨g4335, 5, none⟩ (.int .i64 0)) ⟨g4335, 6, none⟩ (.int .i64 0))) rfl (t := 79) (p := 6) rfl rfl ?hr ?_; (case hr => first | (go_simp; done) | (go_simp; rfl)); intro w4353 hst; clear hc4339 hz4340 hc4341 hz4342 hc4343 hz4344 hc4345 hz4346 hc4347 hz4348 hc4349 hz4350 hc4351 hz4352; replace HS : Aside0 (Sep FF w [b7 g4217 g4219 a4227 a4228 a4229 a4230, b6 g4219 A4222 l4221.length n4224 a4226, r5 A4222 l4221.length n4224 l4221, b16 g4335 0 0 0 0 0 0 0] w4353) := ⟨by rw [hst]; exact HS.out.setAll (l1 := [b7 g4217 g4219 a4227 a4228 a4229 a4230, b6 g4219 A4222 l4221.length n4224 a4226, r5 A4222 l4221.length n4224 l4221]) (l2 := []) [.int .i64 0, .int .i64 0, .int .i64 0, .int .i64 0, .int .i64 0, .int .i64 0, .int .i64 0] rfl⟩; clear hst))
    have hc4354 : w4353.cell? ⟨g4335, 0, none⟩ = some (.int .i64 0) := blk_cellv (HS.out.at3) 0 rfl
    have hc4355 : w4353.cell? ⟨g4335, 1, none⟩ = some (.int .i64 0) := blk_cellv (HS.out.at3) 1 rfl
    have hc4356 : w4353.cell? ⟨g4335, 2, none⟩ = some (.int .i64 0) := blk_cellv (HS.out.at3) 2 rfl
    have hc4357 : w4353.cell? ⟨g4335, 3, none⟩ = some (.int .i64 0) := blk_cellv (HS.out.at3) 3 rfl
    have hc4358 : w4353.cell? ⟨g4335, 4, none⟩ = some (.int .i64 0) := blk_cellv (HS.out.at3) 4 rfl
    have hc4359 : w4353.cell? ⟨g4335, 5, none⟩ = some (.int .i64 0) := blk_cellv (HS.out.at3) 5 rfl
    have hc4360 : w4353.cell? ⟨g4335, 6, none⟩ = some (.int .i64 0) := blk_cellv (HS.out.at3) 6 rfl
    refine bodyPost_ret (v := .tuple #[.agg #[.int .i64 0, .int .i64 0, .int .i64 0, .int .i64 0, .int .i64 0, .int .i64 0, .int .i64 0], .bool false]) (by simp [results, Tryz.results57, go_sem, hc4354, hc4355, hc4356, hc4357, hc4358, hc4359, hc4360]) rfl ?_
    rw [← some_eq H]
    exact ⟨(by first | rfl | (simp [IntKind.wrap_u32]; done)), HS.out.sub (.cons_cons _ (.cons_cons _ (.cons_cons _ (.cons _ .slnil))))⟩
  · replace H := if_no c4338 H
    have c4338b0 : decide (a4231 < 0) = false := decide_eq_false c4338
    clear c4338
    go_wp2_with (first | ((with_reducible refine gate_dst (N := 6) rfl ?_); refine box_on ?hg (N := 6) ?hd (cs := #[.int .i64 0, .int .i64 0, .int .i64 0, .int .i64 0, .int .i64 0, .int .i64 0, .int .i64 0]) (t := 79) ?hr ?_; (case hd => rfl); (case hg => rfl); (case hr => first | (go_simp; done) | (go_simp; rfl)); intro g4335 hg w4336 hbox hb; replace HS : Aside0 (Sep FF w [b7 g4217 g4219 a4227 a4228 a4229 a4230, b6 g4219 A4222 l4221.length n4224 a4226, r5 A4222 l4221.length n4224 l4221, b16 g4335 0 0 0 0 0 0 0] w4336) := ⟨HS.out.box hg hbox hb⟩; clear hg hbox hb))
    obtain ⟨t4361, HA4362, H⟩ := bind_some H
    refine (ground_Ground_Conf.calls l4221 a4226 a4227 a4228 a4229 a4230 g4217 g4219 A4222 l4221.length n4224 t4361 _ ⟨HGl0.out.pass HS.out⟩ ⟨HS.out.begin⟩ HA4362).mono ?_
    rintro e_ w4363 ⟨rfl, hS⟩
    replace HS : Aside0 (Sep FF w [b7 g4217 g4219 a4227 a4228 a4229 a4230, b6 g4219 A4222 l4221.length n4224 a4226, r5 A4222 l4221.length n4224 l4221, b16 g4335 0 0 0 0 0 0 0] w4363) := ⟨HS.out.call hS⟩
    clear hS
    by_cases c4365 : a4231 ≥ t4361.1
    · replace H := if_yes c4365 H
      have c4365b0 : decide (t4361.1 ≤ a4231) = true := decide_eq_true c4365
      clear c4365
      have fl4364 : ∀ w, (Instr.field 29 (.agg #[.int .i64 t4361.1, .int .i64 t4361.2.1, .int .i64 t4361.2.2.1, .int .i64 t4361.2.2.2]) 0).run Tryz.prog w = .ok (.int .i64 t4361.1) w := fun _ => by kernel_rfl
      have hc4366 : w4363.cell? ⟨g4335, 0, none⟩ = some (.int .i64 0) := blk_cellv (HS.out.at3) 0 rfl
      have hz4367 : w4363.frozen? ⟨g4335, 0, none⟩ = false := blk_fz (HS.out.at3) 0
      have hc4368 : w4363.cell? ⟨g4335, 1, none⟩ = some (.int .i64 0) := blk_cellv (HS.out.at3) 1 rfl
      have hz4369 : w4363.frozen? ⟨g4335, 1, none⟩ = false := blk_fz (HS.out.at3) 1
      have hc4370 : w4363.cell? ⟨g4335, 2, none⟩ = some (.int .i64 0) := blk_cellv (HS.out.at3) 2 rfl
      have hz4371 : w4363.frozen? ⟨g4335, 2, none⟩ = false := blk_fz (HS.out.at3) 2
      have hc4372 : w4363.cell? ⟨g4335, 3, none⟩ = some (.int .i64 0) := blk_cellv (HS.out.at3) 3 rfl
      have hz4373 : w4363.frozen? ⟨g4335, 3, none⟩ = false := blk_fz (HS.out.at3) 3
      have hc4374 : w4363.cell? ⟨g4335, 4, none⟩ = some (.int .i64 0) := blk_cellv (HS.out.at3) 4 rfl
      have hz4375 : w4363.frozen? ⟨g4335, 4, none⟩ = false := blk_fz (HS.out.at3) 4
      have hc4376 : w4363.cell? ⟨g4335, 5, none⟩ = some (.int .i64 0) := blk_cellv (HS.out.at3) 5 rfl
      have hz4377 : w4363.frozen? ⟨g4335, 5, none⟩ = false := blk_fz (HS.out.at3) 5
      have hc4378 : w4363.cell? ⟨g4335, 6, none⟩ = some (.int .i64 0) := blk_cellv (HS.out.at3) 6 rfl
      have hz4379 : w4363.frozen? ⟨g4335, 6, none⟩ = false := blk_fz (HS.out.at3) 6
      go_wp2_with (first | ((with_reducible refine gate_store (t := 79) (p := 6) rfl ?_); refine store_event (w1 := (World.setCell (World.setCell (World.setCell (World.setCell (World.setCell (World.setCell (World.setCell w4363 ⟨g4335, 0, none⟩ (.int .i64 0)) ⟨g4335, 1, none⟩ (.int .i64 0)) ⟨g4335, 2, none⟩ (.int .i64 0)) ⟨g4335, 3, none⟩ (.int .i64 0)) ⟨g4335, 4, none⟩ (.int .i64 0)) ⟨g4335, 5, none⟩ (.int .i64 0)) ⟨g4335, 6, none⟩ (.int .i64 0))) rfl (t := 79) (p := 6) rfl rfl ?hr ?_; (case hr => first | (go_simp; done) | (go_simp; rfl)); intro w4380 hst; clear fl4364 hc4366 hz4367 hc4368 hz4369 hc4370 hz4371 hc4372 hz4373 hc4374 hz4375 hc4376 hz4377 hc4378 hz4379; replace HS : Aside0 (Sep FF w [b7 g4217 g4219 a4227 a4228 a4229 a4230, b6 g4219 A4222 l4221.length n4224 a4226, r5 A4222 l4221.length n4224 l4221, b16 g4335 0 0 0 0 0 0 0] w4380) := ⟨by rw [hst]; exact HS.out.setAll (l1 := [b7 g4217 g4219 a4227 a4228 a4229 a4230, b6 g4219 A4222 l4221.length n4224 a4226, r5 A4222 l4221.length n4224 l4221]) (l2 := []) [.int .i64 0, .int .i64 0, .int .i64 0, .int .i64 0, .int .i64 0, .int .i64 0, .int .i64 0] rfl⟩; clear hst))
      have hc4381 : w4380.cell? ⟨g4335, 0, none⟩ = some (.int .i64 0) := blk_cellv (HS.out.at3) 0 rfl
      have hc4382 : w4380.cell? ⟨g4335, 1, none⟩ = some (.int .i64 0) := blk_cellv (HS.out.at3) 1 rfl
      have hc4383 : w4380.cell? ⟨g4335, 2, none⟩ = some (.int .i64 0) := blk_cellv (HS.out.at3) 2 rfl
      have hc4384 : w4380.cell? ⟨g4335, 3, none⟩ = some (.int .i64 0) := blk_cellv (HS.out.at3) 3 rfl
      have hc4385 : w4380.cell? ⟨g4335, 4, none⟩ = some (.int .i64 0) := blk_cellv (HS.out.at3) 4 rfl
      have hc4386 : w4380.cell? ⟨g4335, 5, none⟩ = some (.int .i64 0) := blk_cellv (HS.out.at3) 5 rfl
      have hc4387 : w4380.cell? ⟨g4335, 6, none⟩ = some (.int .i64 0) := blk_cellv (HS.out.at3) 6 rfl
      refine bodyPost_ret (v := .tuple #[.agg #[.int .i64 0, .int .i64 0, .int .i64 0, .int .i64 0, .int .i64 0, .int .i64 0, .int .i64 0], .bool false]) (by simp [results, Tryz.results57, go_sem, hc4381, hc4382, hc4383, hc4384, hc4385, hc4386, hc4387]) rfl ?_
      rw [← some_eq H]
      exact ⟨(by first | rfl | (simp [IntKind.wrap_u32]; done)), HS.out.sub (.cons_cons _ (.cons_cons _ (.cons_cons _ (.cons _ .slnil))))⟩
    · replace H := if_no c4365 H
      have c4365b0 : decide (t4361.1 ≤ a4231) = false := decide_eq_false c4365
      clear c4365
      have fl4364 : ∀ w, (Instr.field 29 (.agg #[.int .i64 t4361.1, .int .i64 t4361.2.1, .int .i64 t4361.2.2.1, .int .i64 t4361.2.2.2]) 0).run Tryz.prog w = .ok (.int .i64 t4361.1) w := fun _ => by kernel_rfl
      go_wp2_with fail
      clear fl4364
      obtain ⟨t4388, HA4389, H⟩ := bind_some H
      refine (ground_Ground_Word.calls l4221 a4226 a4227 a4228 a4229 a4230 a4231 0 g4217 g4219 A4222 l4221.length n4224 t4388 _ ⟨HGl0.out.pass HS.out⟩ ⟨HS.out.begin⟩ HA4389).mono ?_
      rintro e_ w4390 ⟨rfl, hS⟩
      replace HS : Aside0 (Sep FF w [b7 g4217 g4219 a4227 a4228 a4229 a4230, b6 g4219 A4222 l4221.length n4224 t4388.2, r5 A4222 l4221.length n4224 l4221, b16 g4335 0 0 0 0 0 0 0] w4390) := ⟨HS.out.call hS⟩
      clear hS
      go_wp2_with fail
      obtain ⟨t4391, HA4392, H⟩ := bind_some H
      refine (tag_Unpack.calls t4388.1 t4391 _ ⟨HGl0.out.pass (l := []) HS.out⟩ ⟨Sep.start _⟩ HA4392).mono ?_
      rintro e_ w4393 ⟨rfl, hS⟩
      replace HS : Aside0 (Sep FF w [b7 g4217 g4219 a4227 a4228 a4229 a4230, b6 g4219 A4222 l4221.length n4224 t4388.2, r5 A4222 l4221.length n4224 l4221, b16 g4335 0 0 0 0 0 0 0] w4393) := ⟨HS.out.call hS⟩
      clear hS
      go_wp2_with (first | ((with_reducible refine gate_dst (N := 8) rfl ?_); refine box_on ?hg (N := 8) ?hd (cs := #[.int .i64 0, .int .i64 0, .int .i64 0, .int .i64 0, .int .i64 0, .int .i64 0, .int .i64 0]) (t := 79) ?hr ?_; (case hd => rfl); (case hg => rfl); (case hr => first | (go_simp; done) | (go_simp; rfl)); intro g4394 hg w4395 hbox hb; replace HS : Aside0 (Sep FF w [b7 g4217 g4219 a4227 a4228 a4229 a4230, b6 g4219 A4222 l4221.length n4224 t4388.2, r5 A4222 l4221.length n4224 l4221, b16 g4335 0 0 0 0 0 0 0, b16 g4394 0 0 0 0 0 0 0] w4395) := ⟨HS.out.box hg hbox hb⟩; clear hg hbox hb; have hc4397 : w4395.cell? ⟨g4394, 0, none⟩ = some (.int .i64 0) := blk_cellv (HS.out.at4) 0 rfl; have hz4398 : w4395.frozen? ⟨g4394, 0, none⟩ = false := blk_fz (HS.out.at4) 0; have hc4399 : w4395.cell? ⟨g4394, 1, none⟩ = some (.int .i64 0) := blk_cellv (HS.out.at4) 1 rfl; have hz4400 : w4395.frozen? ⟨g4394, 1, none⟩ = false := blk_fz (HS.out.at4) 1; have hc4401 : w4395.cell? ⟨g4394, 2, none⟩ = some (.int .i64 0) := blk_cellv (HS.out.at4) 2 rfl; have hz4402 : w4395.frozen? ⟨g4394, 2, none⟩ = false := blk_fz (HS.out.at4) 2; have hc4403 : w4395.cell? ⟨g4394, 3, none⟩ = some (.int .i64 0) := blk_cellv (HS.out.at4) 3 rfl; have hz4404 : w4395.frozen? ⟨g4394, 3, none⟩ = false := blk_fz (HS.out.at4) 3; have hc4405 : w4395.cell? ⟨g4394, 4, none⟩ = some (.int .i64 0) := blk_cellv (HS.out.at4) 4 rfl; have hz4406 : w4395.frozen? ⟨g4394, 4, none⟩ = false := blk_fz (HS.out.at4) 4; have hc4407 : w4395.cell? ⟨g4394, 5, none⟩ = some (.int .i64 0) := blk_cellv (HS.out.at4) 5 rfl; have hz4408 : w4395.frozen? ⟨g4394, 5, none⟩ = false := blk_fz (HS.out.at4) 5; have hc4409 : w4395.cell? ⟨g4394, 6, none⟩ = some (.int .i64 0) := blk_cellv (HS.out.at4) 6 rfl; have hz4410 : w4395.frozen? ⟨g4394, 6, none⟩ = false := blk_fz (HS.out.at4) 6) | ((with_reducible refine gate_store (t := 79) (p := 8) rfl ?_); refine store_event (w1 := (World.setCell (World.setCell (World.setCell (World.setCell (World.setCell (World.setCell (World.setCell w4395 ⟨g4394, 0, none⟩ (.int .i64 t4391.1)) ⟨g4394, 1, none⟩ (.int .i64 t4391.2.1)) ⟨g4394, 2, none⟩ (.int .i64 t4391.2.2.1)) ⟨g4394, 3, none⟩ (.int .i64 t4391.2.2.2.1)) ⟨g4394, 4, none⟩ (.int .i64 t4391.2.2.2.2.1)) ⟨g4394, 5, none⟩ (.int .i64 t4391.2.2.2.2.2.1)) ⟨g4394, 6, none⟩ (.int .i64 t4391.2.2.2.2.2.2))) rfl (t := 79) (p := 8) rfl rfl ?hr ?_; (case hr => first | (go_simp; done) | (go_simp; rfl)); intro w4411 hst; clear hc4397 hz4398 hc4399 hz4400 hc4401 hz4402 hc4403 hz4404 hc4405 hz4406 hc4407 hz4408 hc4409 hz4410; replace HS : Aside0 (Sep FF w [b7 g4217 g4219 a4227 a4228 a4229 a4230, b6 g4219 A4222 l4221.length n4224 t4388.2, r5 A4222 l4221.length n4224 l4221, b16 g4335 0 0 0 0 0 0 0, b16 g4394 t4391.1 t4391.2.1 t4391.2.2.1 t4391.2.2.2.1 t4391.2.2.2.2.1 t4391.2.2.2.2.2.1 t4391.2.2.2.2.2.2] w4411) := ⟨by rw [hst]; exact HS.out.setAll (l1 := [b7 g4217 g4219 a4227 a4228 a4229 a4230, b6 g4219 A4222 l4221.length n4224 t4388.2, r5 A4222 l4221.length n4224 l4221, b16 g4335 0 0 0 0 0 0 0]) (l2 := []) [.int .i64 t4391.1, .int .i64 t4391.2.1, .int .i64 t4391.2.2.1, .int .i64 t4391.2.2.2.1, .int .i64 t4391.2.2.2.2.1, .int .i64 t4391.2.2.2.2.2.1, .int .i64 t4391.2.2.2.2.2.2] rfl⟩; clear hst))
      refine start_ (n := 17) (S := (fun w' => w'.cell? ⟨g4394, 0, none⟩ = some (.int .i64 t4391.1) ∧ w'.cell? ⟨g4394, 1, none⟩ = some (.int .i64 t4391.2.1) ∧ w'.cell? ⟨g4394, 2, none⟩ = some (.int .i64 t4391.2.2.1) ∧ w'.cell? ⟨g4394, 3, none⟩ = some (.int .i64 t4391.2.2.2.1) ∧ w'.cell? ⟨g4394, 4, none⟩ = some (.int .i64 t4391.2.2.2.2.1) ∧ w'.cell? ⟨g4394, 5, none⟩ = some (.int .i64 t4391.2.2.2.2.2.1) ∧ w'.cell? ⟨g4394, 6, none⟩ = some (.int .i64 t4391.2.2.2.2.2.2))) (ds := []) #[false, false, false, false, false, false, false, false, false, false, false, false, false, false, false, false, false] (by kernel_rfl) rfl rfl (⟨blk_cellv ((HS.out.drew).at4) 0 rfl, blk_cellv ((HS.out.drew).at4) 1 rfl, blk_cellv ((HS.out.drew).at4) 2 rfl, blk_cellv ((HS.out.drew).at4) 3 rfl, blk_cellv ((HS.out.drew).at4) 4 rfl, blk_cellv ((HS.out.drew).at4) 5 rfl, blk_cellv ((HS.out.drew).at4) 6 rfl⟩) (fun hHeld => ?_)
      have HS_ := Aside0.mk HS.out.drew
      clear HS
      generalize World.drew _ = w4413 at HS_ hHeld ⊢
      have HS := HS_
      clear HS_
      refine pure_ (i := 1) (N := some 28) (v := ?_) (a' := ?_) #[false, true, false, false, false, false, false, false, false, false, false, false, false, false, false, false, false] rfl rfl (by kernel_rfl) (fun _ _ _ h => h) (Or.inl ⟨by rfl, ?_⟩) ?_ ?_
      rotate_left
      · intro w'
        go_simp
        with_reducible rfl
      rotate_left
      · simp only [Act.put, List.setIfInBounds_toArray, List.set_cons_zero, List.set_cons_succ, i64_w, i32_w]
        rfl
      refine take_ (i := 0) (N := some 27) (v := ?_) (a' := ?_) #[true, true, false, false, false, false, false, false, false, false, false, false, false, false, false, false, false] rfl rfl (by kernel_rfl) (fun _ _ _ h => h) (Or.inl ⟨by rfl, ?_⟩) hHeld ?_ ?_
      rotate_left
      · rintro w' hS'
        obtain ⟨s0, s1, s2, s3, s4, s5, s6⟩ := hS'
        go_simp
        with_reducible rfl
      rotate_left
      · simp only [Act.put, List.setIfInBounds_toArray, List.set_cons_zero, List.set_cons_succ, i64_w, i32_w]
        rfl
      refine take_ (i := 2) (N := some 29) (v := ?_) (a' := ?_) #[true, true, true, false, false, false, false, false, false, false, false, false, false, false, false, false, false] rfl rfl (by kernel_rfl) (fun _ _ _ h => h) (Or.inl ⟨by rfl, ?_⟩) hHeld ?_ ?_
      rotate_left
      · rintro w' hS'
        obtain ⟨s0, s1, s2, s3, s4, s5, s6⟩ := hS'
        go_simp
        with_reducible rfl
      rotate_left
      · simp only [Act.put, List.setIfInBounds_toArray, List.set_cons_zero, List.set_cons_succ, i64_w, i32_w]
        rfl
      refine pure_ (i := 3) (N := some 30) (v := ?_) (a' := ?_) #[true, true, true, true, false, false, false, false, false, false, false, false, false, false, false, false, false] rfl rfl (by kernel_rfl) (fun _ _ _ h => h) (Or.inl ⟨by rfl, ?_⟩) ?_ ?_
      rotate_left
      · intro w'
        go_simp
        with_reducible rfl
      rotate_left
      · simp only [Act.put, List.setIfInBounds_toArray, List.set_cons_zero, List.set_cons_succ, i64_w, i32_w]
        rfl
      refine pure_ (i := 4) (N := some 31) (v := ?_) (a' := ?_) #[true, true, true, true, true, false, false, false, false, false, false, false, false, false, false, false, false] rfl rfl (by kernel_rfl) (fun _ _ _ h => h) (Or.inl ⟨by rfl, ?_⟩) ?_ ?_
      rotate_left
      · intro w'
        go_simp
        with_reducible rfl
      rotate_left
      · simp only [Act.put, List.setIfInBounds_toArray, List.set_cons_zero, List.set_cons_succ, i64_w, i32_w]
        rfl
      by_cases c4414 : t4391.1 = 1
      · replace H := if_yes c4414 H
        have c4414b0 : (t4391.1 == 1) = true := beq_iff_eq.mpr c4414
        have c4414b1 : (t4391.1 != 1) = false := bne_eq_false_iff_eq.mpr c4414
        clear c4414
        try simp only [c4414b0, Bool.not_true, Bool.not_false]
        refine pure_ (i := 5) (N := some 32) (v := undef) (a' := ?_) #[true, true, true, true, true, true, false, false, false, false, false, false, false, false, false, false, false] rfl rfl (by kernel_rfl) (fun _ _ _ h => h) (Or.inr ⟨by rfl, rfl⟩) ?_ ?_
        rotate_left
        · simp only [Act.put, List.setIfInBounds_toArray, List.set_cons_zero, List.set_cons_succ, i64_w, i32_w]
          rfl
        try simp only [c4414b0, Bool.not_true, Bool.not_false]
        refine pure_ (i := 6) (N := some 33) (v := undef) (a' := ?_) #[true, true, true, true, true, true, true, false, false, false, false, false, false, false, false, false, false] rfl rfl (by kernel_rfl) (fun _ _ _ h => h) (Or.inr ⟨by rfl, rfl⟩) ?_ ?_
        rotate_left
        · simp only [Act.put, List.setIfInBounds_toArray, List.set_cons_zero, List.set_cons_succ, i64_w, i32_w]
          rfl
        try simp only [c4414b0, Bool.not_true, Bool.not_false]
        refine pure_ (i := 7) (N := some 34) (v := undef) (a' := ?_) #[true, true, true, true, true, true, true, true, false, false, false, false, false, false, false, false, false] rfl rfl (by kernel_rfl) (fun _ _ _ h => h) (Or.inr ⟨by rfl, rfl⟩) ?_ ?_
        rotate_left
        · simp only [Act.put, List.setIfInBounds_toArray, List.set_cons_zero, List.set_cons_succ, i64_w, i32_w]
          rfl
        refine pure_ (i := 8) (N := some 35) (v := ?_) (a' := ?_) #[true, true, true, true, true, true, true, true, true, false, false, false, false, false, false, false, false] rfl rfl (by kernel_rfl) (fun _ _ _ h => h) (Or.inl ⟨by rfl, ?_⟩) ?_ ?_
        rotate_left
        · intro w'
          go_simp
          with_reducible rfl
        rotate_left
        · simp only [Act.put, List.setIfInBounds_toArray, List.set_cons_zero, List.set_cons_succ, i64_w, i32_w]
          rfl
        refine pure_ (i := 9) (N := some 36) (v := ?_) (a' := ?_) #[true, true, true, true, true, true, true, true, true, true, false, false, false, false, false, false, false] rfl rfl (by kernel_rfl) (fun _ _ _ h => h) (Or.inl ⟨by rfl, ?_⟩) ?_ ?_
        rotate_left
        · intro w'
          go_simp
          with_reducible rfl
        rotate_left
        · simp only [Act.put, List.setIfInBounds_toArray, List.set_cons_zero, List.set_cons_succ, i64_w, i32_w]
          rfl
        refine pure_ (i := 10) (N := some 37) (v := ?_) (a' := ?_) #[true, true, true, true, true, true, true, true, true, true, true, false, false, false, false, false, false] rfl rfl (by kernel_rfl) (fun _ _ _ h => h) (Or.inl ⟨by rfl, ?_⟩) ?_ ?_
        rotate_left
        · intro w'
          go_simp
          with_reducible rfl
        rotate_left
        · simp only [Act.put, List.setIfInBounds_toArray, List.set_cons_zero, List.set_cons_succ, i64_w, i32_w]
          rfl
        refine pure_ (i := 12) (N := some 39) (v := ?_) (a' := ?_) #[true, true, true, true, true, true, true, true, true, true, true, false, true, false, false, false, false] rfl rfl (by kernel_rfl) (fun _ _ _ h => h) (Or.inl ⟨by rfl, ?_⟩) ?_ ?_
        rotate_left
        · intro w'
          go_simp
          with_reducible rfl
        rotate_left
        · simp only [Act.put, List.setIfInBounds_toArray, List.set_cons_zero, List.set_cons_succ, i64_w, i32_w]
          rfl
        refine take_ (i := 11) (N := some 38) (v := ?_) (a' := ?_) #[true, true, true, true, true, true, true, true, true, true, true, true, true, false, false, false, false] rfl rfl (by kernel_rfl) (fun _ _ _ h => h) (Or.inl ⟨by rfl, ?_⟩) hHeld ?_ ?_
        rotate_left
        · rintro w' hS'
          obtain ⟨s0, s1, s2, s3, s4, s5, s6⟩ := hS'
          go_simp
          with_reducible rfl
        rotate_left
        · simp only [Act.put, List.setIfInBounds_toArray, List.set_cons_zero, List.set_cons_succ, i64_w, i32_w]
          rfl
        refine pure_ (i := 13) (N := some 40) (v := ?_) (a' := ?_) #[true, true, true, true, true, true, true, true, true, true, true, true, true, true, false, false, false] rfl rfl (by kernel_rfl) (fun _ _ _ h => h) (Or.inl ⟨by rfl, ?_⟩) ?_ ?_
        rotate_left
        · intro w'
          go_simp
          with_reducible rfl
        rotate_left
        · simp only [Act.put, List.setIfInBounds_toArray, List.set_cons_zero, List.set_cons_succ, i64_w, i32_w]
          rfl
        refine pure_ (i := 14) (N := some 41) (v := ?_) (a' := ?_) #[true, true, true, true, true, true, true, true, true, true, true, true, true, true, true, false, false] rfl rfl (by kernel_rfl) (fun _ _ _ h => h) (Or.inl ⟨by rfl, ?_⟩) ?_ ?_
        rotate_left
        · intro w'
          go_simp
          with_reducible rfl
        rotate_left
        · simp only [Act.put, List.setIfInBounds_toArray, List.set_cons_zero, List.set_cons_succ, i64_w, i32_w]
          rfl
        refine one_ (i := 15) (N := none) #[true, true, true, true, true, true, true, true, true, true, true, true, true, true, true, true, false] rfl rfl (by kernel_rfl) (by decide) (fun K hK => ?_)
        have hc4416 := blk_cellv (v := .int .i64 0) (HS.out.at3) 0 rfl
        have hz4417 := blk_fz (HS.out.at3) 0
        have hc4418 := blk_cellv (v := .int .i64 0) (HS.out.at3) 1 rfl
        have hz4419 := blk_fz (HS.out.at3) 1
        have hc4420 := blk_cellv (v := .int .i64 0) (HS.out.at3) 2 rfl
        have hz4421 := blk_fz (HS.out.at3) 2
        have hc4422 := blk_cellv (v := .int .i64 0) (HS.out.at3) 3 rfl
        have hz4423 := blk_fz (HS.out.at3) 3
        have hc4424 := blk_cellv (v := .int .i64 0) (HS.out.at3) 4 rfl
        have hz4425 := blk_fz (HS.out.at3) 4
        have hc4426 := blk_cellv (v := .int .i64 0) (HS.out.at3) 5 rfl
        have hz4427 := blk_fz (HS.out.at3) 5
        have hc4428 := blk_cellv (v := .int .i64 0) (HS.out.at3) 6 rfl
        have hz4429 := blk_fz (HS.out.at3) 6
        refine store_step (w1 := (World.setCell (World.setCell (World.setCell (World.setCell (World.setCell (World.setCell (World.setCell w4413 ⟨g4335, 0, none⟩ (.int .i64 t4391.1)) ⟨g4335, 1, none⟩ (.int .i64 t4391.2.1)) ⟨g4335, 2, none⟩ (.int .i64 t4391.2.2.1)) ⟨g4335, 3, none⟩ (.int .i64 t4391.2.2.2.1)) ⟨g4335, 4, none⟩ (.int .i64 t4391.2.2.2.2.1)) ⟨g4335, 5, none⟩ (.int .i64 t4391.2.2.2.2.2.1)) ⟨g4335, 6, none⟩ (.int .i64 t4391.2.2.2.2.2.2))) (by rfl) rfl ?hr ?_
        case hr => first | (go_simp; done) | (go_simp; rfl)
        clear hc4416 hz4417 hc4418 hz4419 hc4420 hz4421 hc4422 hz4423 hc4424 hz4425 hc4426 hz4427 hc4428 hz4429
        intro w4415 hst
        replace HS : Aside0 (Sep FF w [b7 g4217 g4219 a4227 a4228 a4229 a4230, b6 g4219 A4222 l4221.length n4224 t4388.2, r5 A4222 l4221.length n4224 l4221, b16 g4335 t4391.1 t4391.2.1 t4391.2.2.1 t4391.2.2.2.1 t4391.2.2.2.2.1 t4391.2.2.2.2.2.1 t4391.2.2.2.2.2.2, b16 g4394 t4391.1 t4391.2.1 t4391.2.2.1 t4391.2.2.2.1 t4391.2.2.2.2.1 t4391.2.2.2.2.2.1 t4391.2.2.2.2.2.2] w4415) := ⟨by rw [hst]; exact HS.out.setAll (l1 := [b7 g4217 g4219 a4227 a4228 a4229 a4230, b6 g4219 A4222 l4221.length n4224 t4388.2, r5 A4222 l4221.length n4224 l4221]) (l2 := [b16 g4394 t4391.1 t4391.2.1 t4391.2.2.1 t4391.2.2.2.1 t4391.2.2.2.2.1 t4391.2.2.2.2.2.1 t4391.2.2.2.2.2.2]) [.int .i64 t4391.1, .int .i64 t4391.2.1, .int .i64 t4391.2.2.1, .int .i64 t4391.2.2.2.1, .int .i64 t4391.2.2.2.2.1, .int .i64 t4391.2.2.2.2.2.1, .int .i64 t4391.2.2.2.2.2.2] rfl⟩
        clear hst
        refine hK.out _ _ (⟨blk_cellv (HS.out.at4) 0 rfl, blk_cellv (HS.out.at4) 1 rfl, blk_cellv (HS.out.at4) 2 rfl, blk_cellv (HS.out.at4) 3 rfl, blk_cellv (HS.out.at4) 4 rfl, blk_cellv (HS.out.at4) 5 rfl, blk_cellv (HS.out.at4) 6 rfl⟩) (fun hHeld => ?_)
        clear hK K
        refine pure_ (i := 16) (N := some 7) (v := ?_) (a' := ?_) #[true, true, true, true, true, true, true, true, true, true, true, true, true, true, true, true, true] rfl rfl (by kernel_rfl) (fun _ _ _ h => h) (Or.inl ⟨by rfl, ?_⟩) ?_ ?_
        rotate_left
        · intro w'
          go_simp
          with_reducible rfl
        rotate_left
        · simp only [Act.put, List.setIfInBounds_toArray, List.set_cons_zero, List.set_cons_succ, i64_w, i32_w]
          rfl
        refine done_ (by kernel_rfl) ?_
        replace HS : Aside0 (Sep FF w [b7 g4217 g4219 a4227 a4228 a4229 a4230, b6 g4219 A4222 l4221.length n4224 t4388.2, r5 A4222 l4221.length n4224 l4221, b16 g4335 t4391.1 t4391.2.1 t4391.2.2.1 t4391.2.2.2.1 t4391.2.2.2.2.1 t4391.2.2.2.2.2.1 t4391.2.2.2.2.2.2] w4415) := ⟨HS.out.sub (.cons_cons _ (.cons_cons _ (.cons_cons _ (.cons_cons _ (.cons _ .slnil)))))⟩
        go_wp2_with fail
        have hc4430 : w4415.cell? ⟨g4335, 0, none⟩ = some (.int .i64 t4391.1) := blk_cellv (HS.out.at3) 0 rfl
        have hc4431 : w4415.cell? ⟨g4335, 1, none⟩ = some (.int .i64 t4391.2.1) := blk_cellv (HS.out.at3) 1 rfl
        have hc4432 : w4415.cell? ⟨g4335, 2, none⟩ = some (.int .i64 t4391.2.2.1) := blk_cellv (HS.out.at3) 2 rfl
        have hc4433 : w4415.cell? ⟨g4335, 3, none⟩ = some (.int .i64 t4391.2.2.2.1) := blk_cellv (HS.out.at3) 3 rfl
        have hc4434 : w4415.cell? ⟨g4335, 4, none⟩ = some (.int .i64 t4391.2.2.2.2.1) := blk_cellv (HS.out.at3) 4 rfl
        have hc4435 : w4415.cell? ⟨g4335, 5, none⟩ = some (.int .i64 t4391.2.2.2.2.2.1) := blk_cellv (HS.out.at3) 5 rfl
        have hc4436 : w4415.cell? ⟨g4335, 6, none⟩ = some (.int .i64 t4391.2.2.2.2.2.2) := blk_cellv (HS.out.at3) 6 rfl
        refine bodyPost_ret (v := .tuple #[.agg #[.int .i64 t4391.1, .int .i64 t4391.2.1, .int .i64 t4391.2.2.1, .int .i64 t4391.2.2.2.1, .int .i64 t4391.2.2.2.2.1, .int .i64 t4391.2.2.2.2.2.1, .int .i64 t4391.2.2.2.2.2.2], .bool (t4391.2.2.2.2.2.1 == a4232)]) (by simp [results, Tryz.results57, go_sem, hc4430, hc4431, hc4432, hc4433, hc4434, hc4435, hc4436]) rfl ?_
        rw [← some_eq H]
        exact ⟨(by first | rfl | (simp [IntKind.wrap_u32]; done)), HS.out.sub (.cons_cons _ (.cons_cons _ (.cons_cons _ (.cons _ .slnil))))⟩
      · replace H := if_no c4414 H
        have c4414b0 : (t4391.1 == 1) = false := beq_eq_false_iff_ne.mpr c4414
        have c4414b1 : (t4391.1 != 1) = true := bne_iff_ne.mpr c4414
        clear c4414
        try simp only [c4414b0, Bool.not_true, Bool.not_false]
        refine pure_ (i := 5) (N := some 32) (v := ?_) (a' := ?_) #[true, true, true, true, true, true, false, false, false, false, false, false, false, false, false, false, false] rfl rfl (by kernel_rfl) (fun _ _ _ h => h) (Or.inl ⟨by rfl, ?_⟩) ?_ ?_
        rotate_left
        · intro w'
          go_simp
          with_reducible rfl
        rotate_left
        · simp only [Act.put, List.setIfInBounds_toArray, List.set_cons_zero, List.set_cons_succ, i64_w, i32_w]
          rfl
        try simp only [c4414b0, Bool.not_true, Bool.not_false]
        refine take_ (i := 6) (N := some 33) (v := ?_) (a' := ?_) #[true, true, true, true, true, true, true, false, false, false, false, false, false, false, false, false, false] rfl rfl (by kernel_rfl) (fun _ _ _ h => h) (Or.inl ⟨by rfl, ?_⟩) hHeld ?_ ?_
        rotate_left
        · rintro w' hS'
          obtain ⟨s0, s1, s2, s3, s4, s5, s6⟩ := hS'
          go_simp
          with_reducible rfl
        rotate_left
        · simp only [Act.put, List.setIfInBounds_toArray, List.set_cons_zero, List.set_cons_succ, i64_w, i32_w]
          rfl
        try simp only [c4414b0, Bool.not_true, Bool.not_false]
        refine pure_ (i := 7) (N := some 34) (v := ?_) (a' := ?_) #[true, true, true, true, true, true, true, true, false, false, false, false, false, false, false, false, false] rfl rfl (by kernel_rfl) (fun _ _ _ h => h) (Or.inl ⟨by rfl, ?_⟩) ?_ ?_
        rotate_left
        · intro w'
          go_simp
          with_reducible rfl
        rotate_left
        · simp only [Act.put, List.setIfInBounds_toArray, List.set_cons_zero, List.set_cons_succ, i64_w, i32_w]
          rfl
        refine pure_ (i := 8) (N := some 35) (v := ?_) (a' := ?_) #[true, true, true, true, true, true, true, true, true, false, false, false, false, false, false, false, false] rfl rfl (by kernel_rfl) (fun _ _ _ h => h) (Or.inl ⟨by rfl, ?_⟩) ?_ ?_
        rotate_left
        · intro w'
          go_simp
          with_reducible rfl
        rotate_left
        · simp only [Act.put, List.setIfInBounds_toArray, List.set_cons_zero, List.set_cons_succ, i64_w, i32_w]
          rfl
        refine pure_ (i := 9) (N := some 36) (v := ?_) (a' := ?_) #[true, true, true, true, true, true, true, true, true, true, false, false, false, false, false, false, false] rfl rfl (by kernel_rfl) (fun _ _ _ h => h) (Or.inl ⟨by rfl, ?_⟩) ?_ ?_
        rotate_left
        · intro w'
          go_simp
          with_reducible rfl
        rotate_left
        · simp only [Act.put, List.setIfInBounds_toArray, List.set_cons_zero, List.set_cons_succ, i64_w, i32_w]
          rfl
        by_cases c4437 : t4391.1 = 2
        · replace H := if_yes c4437 H
          have c4437b0 : (t4391.1 == 2) = true := beq_iff_eq.mpr c4437
          have c4437b1 : (t4391.1 != 2) = false := bne_eq_false_iff_eq.mpr c4437
          clear c4437
          try simp only [c4437b0, Bool.not_true, Bool.not_false]
          refine pure_ (i := 10) (N := some 37) (v := ?_) (a' := ?_) #[true, true, true, true, true, true, true, true, true, true, true, false, false, false, false, false, false] rfl rfl (by kernel_rfl) (fun _ _ _ h => h) (Or.inl ⟨by rfl, ?_⟩) ?_ ?_
          rotate_left
          · intro w'
            go_simp
            with_reducible rfl
          rotate_left
          · simp only [Act.put, List.setIfInBounds_toArray, List.set_cons_zero, List.set_cons_succ, i64_w, i32_w]
            rfl
          try simp only [c4437b0, Bool.not_true, Bool.not_false]
          refine pure_ (i := 12) (N := some 39) (v := ?_) (a' := ?_) #[true, true, true, true, true, true, true, true, true, true, true, false, true, false, false, false, false] rfl rfl (by kernel_rfl) (fun _ _ _ h => h) (Or.inl ⟨by rfl, ?_⟩) ?_ ?_
          rotate_left
          · intro w'
            go_simp
            with_reducible rfl
          rotate_left
          · simp only [Act.put, List.setIfInBounds_toArray, List.set_cons_zero, List.set_cons_succ, i64_w, i32_w]
            rfl
          try simp only [c4437b0, Bool.not_true, Bool.not_false]
          refine take_ (i := 11) (N := some 38) (v := ?_) (a' := ?_) #[true, true, true, true, true, true, true, true, true, true, true, true, true, false, false, false, false] rfl rfl (by kernel_rfl) (fun _ _ _ h => h) (Or.inl ⟨by rfl, ?_⟩) hHeld ?_ ?_
          rotate_left
          · rintro w' hS'
            obtain ⟨s0, s1, s2, s3, s4, s5, s6⟩ := hS'
            go_simp
            with_reducible rfl
          rotate_left
          · simp only [Act.put, List.setIfInBounds_toArray, List.set_cons_zero, List.set_cons_succ, i64_w, i32_w]
            rfl
          try simp only [c4437b0, Bool.not_true, Bool.not_false]
          refine pure_ (i := 13) (N := some 40) (v := ?_) (a' := ?_) #[true, true, true, true, true, true, true, true, true, true, true, true, true, true, false, false, false] rfl rfl (by kernel_rfl) (fun _ _ _ h => h) (Or.inl ⟨by rfl, ?_⟩) ?_ ?_
          rotate_left
          · intro w'
            go_simp
            with_reducible rfl
          rotate_left
          · simp only [Act.put, List.setIfInBounds_toArray, List.set_cons_zero, List.set_cons_succ, i64_w, i32_w]
            rfl
          refine pure_ (i := 14) (N := some 41) (v := ?_) (a' := ?_) #[true, true, true, true, true, true, true, true, true, true, true, true, true, true, true, false, false] rfl rfl (by kernel_rfl) (fun _ _ _ h => h) (Or.inl ⟨by rfl, ?_⟩) ?_ ?_
          rotate_left
          · intro w'
            go_simp
            with_reducible rfl
          rotate_left
          · simp only [Act.put, List.setIfInBounds_toArray, List.set_cons_zero, List.set_cons_succ, i64_w, i32_w]
            rfl
          refine one_ (i := 15) (N := none) #[true, true, true, true, true, true, true, true, true, true, true, true, true, true, true, true, false] rfl rfl (by kernel_rfl) (by decide) (fun K hK => ?_)
          have hc4439 := blk_cellv (v := .int .i64 0) (HS.out.at3) 0 rfl
          have hz4440 := blk_fz (HS.out.at3) 0
          have hc4441 := blk_cellv (v := .int .i64 0) (HS.out.at3) 1 rfl
          have hz4442 := blk_fz (HS.out.at3) 1
          have hc4443 := blk_cellv (v := .int .i64 0) (HS.out.at3) 2 rfl
          have hz4444 := blk_fz (HS.out.at3) 2
          have hc4445 := blk_cellv (v := .int .i64 0) (HS.out.at3) 3 rfl
          have hz4446 := blk_fz (HS.out.at3) 3
          have hc4447 := blk_cellv (v := .int .i64 0) (HS.out.at3) 4 rfl
          have hz4448 := blk_fz (HS.out.at3) 4
          have hc4449 := blk_cellv (v := .int .i64 0) (HS.out.at3) 5 rfl
          have hz4450 := blk_fz (HS.out.at3) 5
          have hc4451 := blk_cellv (v := .int .i64 0) (HS.out.at3) 6 rfl
          have hz4452 := blk_fz (HS.out.at3) 6
          refine store_step (w1 := (World.setCell (World.setCell (World.setCell (World.setCell (World.setCell (World.setCell (World.setCell w4413 ⟨g4335, 0, none⟩ (.int .i64 t4391.1)) ⟨g4335, 1, none⟩ (.int .i64 t4391.2.1)) ⟨g4335, 2, none⟩ (.int .i64 t4391.2.2.1)) ⟨g4335, 3, none⟩ (.int .i64 t4391.2.2.2.1)) ⟨g4335, 4, none⟩ (.int .i64 t4391.2.2.2.2.1)) ⟨g4335, 5, none⟩ (.int .i64 t4391.2.2.2.2.2.1)) ⟨g4335, 6, none⟩ (.int .i64 t4391.2.2.2.2.2.2))) (by rfl) rfl ?hr ?_
          case hr => first | (go_simp; done) | (go_simp; rfl)
          clear hc4439 hz4440 hc4441 hz4442 hc4443 hz4444 hc4445 hz4446 hc4447 hz4448 hc4449 hz4450 hc4451 hz4452
          intro w4438 hst
          replace HS : Aside0 (Sep FF w [b7 g4217 g4219 a4227 a4228 a4229 a4230, b6 g4219 A4222 l4221.length n4224 t4388.2, r5 A4222 l4221.length n4224 l4221, b16 g4335 t4391.1 t4391.2.1 t4391.2.2.1 t4391.2.2.2.1 t4391.2.2.2.2.1 t4391.2.2.2.2.2.1 t4391.2.2.2.2.2.2, b16 g4394 t4391.1 t4391.2.1 t4391.2.2.1 t4391.2.2.2.1 t4391.2.2.2.2.1 t4391.2.2.2.2.2.1 t4391.2.2.2.2.2.2] w4438) := ⟨by rw [hst]; exact HS.out.setAll (l1 := [b7 g4217 g4219 a4227 a4228 a4229 a4230, b6 g4219 A4222 l4221.length n4224 t4388.2, r5 A4222 l4221.length n4224 l4221]) (l2 := [b16 g4394 t4391.1 t4391.2.1 t4391.2.2.1 t4391.2.2.2.1 t4391.2.2.2.2.1 t4391.2.2.2.2.2.1 t4391.2.2.2.2.2.2]) [.int .i64 t4391.1, .int .i64 t4391.2.1, .int .i64 t4391.2.2.1, .int .i64 t4391.2.2.2.1, .int .i64 t4391.2.2.2.2.1, .int .i64 t4391.2.2.2.2.2.1, .int .i64 t4391.2.2.2.2.2.2] rfl⟩
          clear hst
          refine hK.out _ _ (⟨blk_cellv (HS.out.at4) 0 rfl, blk_cellv (HS.out.at4) 1 rfl, blk_cellv (HS.out.at4) 2 rfl, blk_cellv (HS.out.at4) 3 rfl, blk_cellv (HS.out.at4) 4 rfl, blk_cellv (HS.out.at4) 5 rfl, blk_cellv (HS.out.at4) 6 rfl⟩) (fun hHeld => ?_)
          clear hK K
          refine pure_ (i := 16) (N := some 7) (v := ?_) (a' := ?_) #[true, true, true, true, true, true, true, true, true, true, true, true, true, true, true, true, true] rfl rfl (by kernel_rfl) (fun _ _ _ h => h) (Or.inl ⟨by rfl, ?_⟩) ?_ ?_
          rotate_left
          · intro w'
            go_simp
            with_reducible rfl
          rotate_left
          · simp only [Act.put, List.setIfInBounds_toArray, List.set_cons_zero, List.set_cons_succ, i64_w, i32_w]
            rfl
          refine done_ (by kernel_rfl) ?_
          replace HS : Aside0 (Sep FF w [b7 g4217 g4219 a4227 a4228 a4229 a4230, b6 g4219 A4222 l4221.length n4224 t4388.2, r5 A4222 l4221.length n4224 l4221, b16 g4335 t4391.1 t4391.2.1 t4391.2.2.1 t4391.2.2.2.1 t4391.2.2.2.2.1 t4391.2.2.2.2.2.1 t4391.2.2.2.2.2.2] w4438) := ⟨HS.out.sub (.cons_cons _ (.cons_cons _ (.cons_cons _ (.cons_cons _ (.cons _ .slnil)))))⟩
          go_wp2_with fail
          have hc4453 : w4438.cell? ⟨g4335, 0, none⟩ = some (.int .i64 t4391.1) := blk_cellv (HS.out.at3) 0 rfl
          have hc4454 : w4438.cell? ⟨g4335, 1, none⟩ = some (.int .i64 t4391.2.1) := blk_cellv (HS.out.at3) 1 rfl
          have hc4455 : w4438.cell? ⟨g4335, 2, none⟩ = some (.int .i64 t4391.2.2.1) := blk_cellv (HS.out.at3) 2 rfl
          have hc4456 : w4438.cell? ⟨g4335, 3, none⟩ = some (.int .i64 t4391.2.2.2.1) := blk_cellv (HS.out.at3) 3 rfl
          have hc4457 : w4438.cell? ⟨g4335, 4, none⟩ = some (.int .i64 t4391.2.2.2.2.1) := blk_cellv (HS.out.at3) 4 rfl
          have hc4458 : w4438.cell? ⟨g4335, 5, none⟩ = some (.int .i64 t4391.2.2.2.2.2.1) := blk_cellv (HS.out.at3) 5 rfl
          have hc4459 : w4438.cell? ⟨g4335, 6, none⟩ = some (.int .i64 t4391.2.2.2.2.2.2) := blk_cellv (HS.out.at3) 6 rfl
          refine bodyPost_ret (v := .tuple #[.agg #[.int .i64 t4391.1, .int .i64 t4391.2.1, .int .i64 t4391.2.2.1, .int .i64 t4391.2.2.2.1, .int .i64 t4391.2.2.2.2.1, .int .i64 t4391.2.2.2.2.2.1, .int .i64 t4391.2.2.2.2.2.2], .bool (t4391.2.2.2.2.2.1 == a4232)]) (by simp [results, Tryz.results57, go_sem, hc4453, hc4454, hc4455, hc4456, hc4457, hc4458, hc4459]) rfl ?_
          rw [← some_eq H]
          exact ⟨(by first | rfl | (simp [IntKind.wrap_u32]; done)), HS.out.sub (.cons_cons _ (.cons_cons _ (.cons_cons _ (.cons _ .slnil))))⟩
        · replace H := if_no c4437 H
          have c4437b0 : (t4391.1 == 2) = false := beq_eq_false_iff_ne.mpr c4437
          have c4437b1 : (t4391.1 != 2) = true := bne_iff_ne.mpr c4437
          clear c4437
          try simp only [c4437b0, Bool.not_true, Bool.not_false]
          refine pure_ (i := 10) (N := some 37) (v := undef) (a' := ?_) #[true, true, true, true, true, true, true, true, true, true, true, false, false, false, false, false, false] rfl rfl (by kernel_rfl) (fun _ _ _ h => h) (Or.inr ⟨by rfl, rfl⟩) ?_ ?_
          rotate_left
          · simp only [Act.put, List.setIfInBounds_toArray, List.set_cons_zero, List.set_cons_succ, i64_w, i32_w]
            rfl
          try simp only [c4437b0, Bool.not_true, Bool.not_false]
          refine pure_ (i := 11) (N := some 38) (v := undef) (a' := ?_) #[true, true, true, true, true, true, true, true, true, true, true, true, false, false, false, false, false] rfl rfl (by kernel_rfl) (fun _ _ _ h => h) (Or.inr ⟨by rfl, rfl⟩) ?_ ?_
          rotate_left
          · simp only [Act.put, List.setIfInBounds_toArray, List.set_cons_zero, List.set_cons_succ, i64_w, i32_w]
            rfl
          try simp only [c4437b0, Bool.not_true, Bool.not_false]
          refine pure_ (i := 12) (N := some 39) (v := undef) (a' := ?_) #[true, true, true, true, true, true, true, true, true, true, true, true, true, false, false, false, false] rfl rfl (by kernel_rfl) (fun _ _ _ h => h) (Or.inr ⟨by rfl, rfl⟩) ?_ ?_
          rotate_left
          · simp only [Act.put, List.setIfInBounds_toArray, List.set_cons_zero, List.set_cons_succ, i64_w, i32_w]
            rfl
          try simp only [c4437b0, Bool.not_true, Bool.not_false]
          refine pure_ (i := 13) (N := some 40) (v := undef) (a' := ?_) #[true, true, true, true, true, true, true, true, true, true, true, true, true, true, false, false, false] rfl rfl (by kernel_rfl) (fun _ _ _ h => h) (Or.inr ⟨by rfl, rfl⟩) ?_ ?_
          rotate_left
          · simp only [Act.put, List.setIfInBounds_toArray, List.set_cons_zero, List.set_cons_succ, i64_w, i32_w]
            rfl
          refine pure_ (i := 14) (N := some 41) (v := ?_) (a' := ?_) #[true, true, true, true, true, true, true, true, true, true, true, true, true, true, true, false, false] rfl rfl (by kernel_rfl) (fun _ _ _ h => h) (Or.inl ⟨by rfl, ?_⟩) ?_ ?_
          rotate_left
          · intro w'
            go_simp
            with_reducible rfl
          rotate_left
          · simp only [Act.put, List.setIfInBounds_toArray, List.set_cons_zero, List.set_cons_succ, i64_w, i32_w]
            rfl
          refine one_ (i := 15) (N := none) #[true, true, true, true, true, true, true, true, true, true, true, true, true, true, true, true, false] rfl rfl (by kernel_rfl) (by decide) (fun K hK => ?_)
          have hc4461 := blk_cellv (v := .int .i64 0) (HS.out.at3) 0 rfl
          have hz4462 := blk_fz (HS.out.at3) 0
          have hc4463 := blk_cellv (v := .int .i64 0) (HS.out.at3) 1 rfl
          have hz4464 := blk_fz (HS.out.at3) 1
          have hc4465 := blk_cellv (v := .int .i64 0) (HS.out.at3) 2 rfl
          have hz4466 := blk_fz (HS.out.at3) 2
          have hc4467 := blk_cellv (v := .int .i64 0) (HS.out.at3) 3 rfl
          have hz4468 := blk_fz (HS.out.at3) 3
          have hc4469 := blk_cellv (v := .int .i64 0) (HS.out.at3) 4 rfl
          have hz4470 := blk_fz (HS.out.at3) 4
          have hc4471 := blk_cellv (v := .int .i64 0) (HS.out.at3) 5 rfl
          have hz4472 := blk_fz (HS.out.at3) 5
          have hc4473 := blk_cellv (v := .int .i64 0) (HS.out.at3) 6 rfl
          have hz4474 := blk_fz (HS.out.at3) 6
          refine store_step (w1 := (World.setCell (World.setCell (World.setCell (World.setCell (World.setCell (World.setCell (World.setCell w4413 ⟨g4335, 0, none⟩ (.int .i64 t4391.1)) ⟨g4335, 1, none⟩ (.int .i64 t4391.2.1)) ⟨g4335, 2, none⟩ (.int .i64 t4391.2.2.1)) ⟨g4335, 3, none⟩ (.int .i64 t4391.2.2.2.1)) ⟨g4335, 4, none⟩ (.int .i64 t4391.2.2.2.2.1)) ⟨g4335, 5, none⟩ (.int .i64 t4391.2.2.2.2.2.1)) ⟨g4335, 6, none⟩ (.int .i64 t4391.2.2.2.2.2.2))) (by rfl) rfl ?hr ?_
          case hr => first | (go_simp; done) | (go_simp; rfl)
          clear hc4461 hz4462 hc4463 hz4464 hc4465 hz4466 hc4467 hz4468 hc4469 hz4470 hc4471 hz4472 hc4473 hz4474
          intro w4460 hst
          replace HS : Aside0 (Sep FF w [b7 g4217 g4219 a4227 a4228 a4229 a4230, b6 g4219 A4222 l4221.length n4224 t4388.2, r5 A4222 l4221.length n4224 l4221, b16 g4335 t4391.1 t4391.2.1 t4391.2.2.1 t4391.2.2.2.1 t4391.2.2.2.2.1 t4391.2.2.2.2.2.1 t4391.2.2.2.2.2.2, b16 g4394 t4391.1 t4391.2.1 t4391.2.2.1 t4391.2.2.2.1 t4391.2.2.2.2.1 t4391.2.2.2.2.2.1 t4391.2.2.2.2.2.2] w4460) := ⟨by rw [hst]; exact HS.out.setAll (l1 := [b7 g4217 g4219 a4227 a4228 a4229 a4230, b6 g4219 A4222 l4221.length n4224 t4388.2, r5 A4222 l4221.length n4224 l4221]) (l2 := [b16 g4394 t4391.1 t4391.2.1 t4391.2.2.1 t4391.2.2.2.1 t4391.2.2.2.2.1 t4391.2.2.2.2.2.1 t4391.2.2.2.2.2.2]) [.int .i64 t4391.1, .int .i64 t4391.2.1, .int .i64 t4391.2.2.1, .int .i64 t4391.2.2.2.1, .int .i64 t4391.2.2.2.2.1, .int .i64 t4391.2.2.2.2.2.1, .int .i64 t4391.2.2.2.2.2.2] rfl⟩
          clear hst
          refine hK.out _ _ (⟨blk_cellv (HS.out.at4) 0 rfl, blk_cellv (HS.out.at4) 1 rfl, blk_cellv (HS.out.at4) 2 rfl, blk_cellv (HS.out.at4) 3 rfl, blk_cellv (HS.out.at4) 4 rfl, blk_cellv (HS.out.at4) 5 rfl, blk_cellv (HS.out.at4) 6 rfl⟩) (fun hHeld => ?_)
          clear hK K
          refine pure_ (i := 16) (N := some 7) (v := ?_) (a' := ?_) #[true, true, true, true, true, true, true, true, true, true, true, true, true, true, true, true, true] rfl rfl (by kernel_rfl) (fun _ _ _ h => h) (Or.inl ⟨by rfl, ?_⟩) ?_ ?_
          rotate_left
          · intro w'
            go_simp
            with_reducible rfl
          rotate_left
          · simp only [Act.put, List.setIfInBounds_toArray, List.set_cons_zero, List.set_cons_succ, i64_w, i32_w]
            rfl
          refine done_ (by kernel_rfl) ?_
          replace HS : Aside0 (Sep FF w [b7 g4217 g4219 a4227 a4228 a4229 a4230, b6 g4219 A4222 l4221.length n4224 t4388.2, r5 A4222 l4221.length n4224 l4221, b16 g4335 t4391.1 t4391.2.1 t4391.2.2.1 t4391.2.2.2.1 t4391.2.2.2.2.1 t4391.2.2.2.2.2.1 t4391.2.2.2.2.2.2] w4460) := ⟨HS.out.sub (.cons_cons _ (.cons_cons _ (.cons_cons _ (.cons_cons _ (.cons _ .slnil)))))⟩
          go_wp2_with fail
          have hc4475 : w4460.cell? ⟨g4335, 0, none⟩ = some (.int .i64 t4391.1) := blk_cellv (HS.out.at3) 0 rfl
          have hc4476 : w4460.cell? ⟨g4335, 1, none⟩ = some (.int .i64 t4391.2.1) := blk_cellv (HS.out.at3) 1 rfl
          have hc4477 : w4460.cell? ⟨g4335, 2, none⟩ = some (.int .i64 t4391.2.2.1) := blk_cellv (HS.out.at3) 2 rfl
          have hc4478 : w4460.cell? ⟨g4335, 3, none⟩ = some (.int .i64 t4391.2.2.2.1) := blk_cellv (HS.out.at3) 3 rfl
          have hc4479 : w4460.cell? ⟨g4335, 4, none⟩ = some (.int .i64 t4391.2.2.2.2.1) := blk_cellv (HS.out.at3) 4 rfl
          have hc4480 : w4460.cell? ⟨g4335, 5, none⟩ = some (.int .i64 t4391.2.2.2.2.2.1) := blk_cellv (HS.out.at3) 5 rfl
          have hc4481 : w4460.cell? ⟨g4335, 6, none⟩ = some (.int .i64 t4391.2.2.2.2.2.2) := blk_cellv (HS.out.at3) 6 rfl
          refine bodyPost_ret (v := .tuple #[.agg #[.int .i64 t4391.1, .int .i64 t4391.2.1, .int .i64 t4391.2.2.1, .int .i64 t4391.2.2.2.1, .int .i64 t4391.2.2.2.2.1, .int .i64 t4391.2.2.2.2.2.1, .int .i64 t4391.2.2.2.2.2.2], .bool false]) (by simp [results, Tryz.results57, go_sem, hc4475, hc4476, hc4477, hc4478, hc4479, hc4480, hc4481]) rfl ?_
          rw [← some_eq H]
          exact ⟨(by first | rfl | (simp [IntKind.wrap_u32]; done)), HS.out.sub (.cons_cons _ (.cons_cons _ (.cons_cons _ (.cons _ .slnil))))⟩
end Go.Proofs.YtobeonkddamnoaaGreatDoor.C

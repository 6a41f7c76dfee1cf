/- Each function of the group TI does what its plain function says, and changes nothing that was there; proved by walking its code. No condition. -/
import Derived.Test.YtobeonkddamnoaaDoorQw
import Derived.Test.YtobeonkddamnoaaDoorMTI
import Derived.Test.YtobeonkddamnoaaDoorGTI0
import Derived.Test.YtobeonkddamnoaaDoorGTI1
namespace Go.Proofs.YtobeonkddamnoaaDoor.C
open Go.RowKit Go.Proofs.YtobeonkddamnoaaDoorW.PrintWords Go.Proofs.YtobeonkddamnoaaDoorW.PrintLast Go.Proofs.YtobeonkddamnoaaDoor.Q Go.Proofs.YtobeonkddamnoaaDoor.M
set_option linter.unusedVariables false
set_option linter.unusedSimpArgs false
set_option maxHeartbeats 30000000 in
set_option maxRecDepth 100000 in
theorem obj_Make.calls (k : Nat) (l1854 : List Int) (a1859 : Int) (a1860 : Int) (a1861 : Int) (a1862 : Int) (a1863 : Int) (a1864 : Int) (a1865 : Int) (g1850 : Nat) (g1852 : Nat) (A1855 : Option Addr) (m1856 : Nat) (n1857 : Nat) (r : Int × Int × Int × List Int) (w : World)  (HGl0 : Aside0 (Gl 0 #[.int .i64 0, .int .i64 0, .int .i64 0, .int .i64 0, .int .i64 0] (fps [b7 g1850 g1852 a1860 a1861 a1862 a1863, b6 g1852 A1855 m1856 n1857 a1859, r5 A1855 m1856 n1857 l1854]) w)) (HS : Aside0 (Sep (fps [b7 g1850 g1852 a1860 a1861 a1862 a1863, b6 g1852 A1855 m1856 n1857 a1859, r5 A1855 m1856 n1857 l1854]) w [b7 g1850 g1852 a1860 a1861 a1862 a1863, b6 g1852 A1855 m1856 n1857 a1859, r5 A1855 m1856 n1857 l1854] w)) (H : Aside0 (obj_Make.f k l1854 a1859 a1860 a1861 a1862 a1863 a1864 a1865 = some r)) :
    Calls Tryd.prog 34 #[.pointer (some ⟨g1850, 0, none⟩), .int .i64 a1864, .int .i64 a1865] w fun e w' => e = .returned (.tuple #[.int .i64 r.1, .int .i64 r.2.1]) ∧ Sep (fps [b7 g1850 g1852 a1860 a1861 a1862 a1863, b6 g1852 A1855 m1856 n1857 a1859, r5 A1855 m1856 n1857 l1854]) w [b7 g1850 g1852 a1860 a1861 a1862 a1863, b6 g1852 A1855 m1856 n1857 r.2.2.1, r5 A1855 m1856 n1857 r.2.2.2] w' := by
  generalize (fps [b7 g1850 g1852 a1860 a1861 a1862 a1863, b6 g1852 A1855 m1856 n1857 a1859, r5 A1855 m1856 n1857 l1854]) = FF at HS HGl0 ⊢
  obtain rfl := (row_len (HS.out.at2)).symm
  unfold obj_Make.f at H
  go_enter Tryd.func34, Tryd.ntmps34
  go_wp2_with fail
  obtain ⟨t2682, HA2683, H⟩ := bind_some H
  refine (ground_Ground_Conf.calls l1854 a1859 a1860 a1861 a1862 a1863 g1850 g1852 A1855 l1854.length n1857 t2682 _ ⟨HGl0.out.pass HS.out⟩ ⟨HS.out.begin⟩ HA2683).mono ?_
  rintro e_ w2684 ⟨rfl, hS⟩
  replace HS : Aside0 (Sep FF w [b7 g1850 g1852 a1860 a1861 a1862 a1863, b6 g1852 A1855 l1854.length n1857 a1859, r5 A1855 l1854.length n1857 l1854] w2684) := ⟨HS.out.call hS⟩
  clear hS
  have fl2685 : ∀ w, (Instr.field 30 (.agg #[.int .i64 t2682.1, .int .i64 t2682.2.1, .int .i64 t2682.2.2.1, .int .i64 t2682.2.2.2]) 1).run Tryd.prog w = .ok (.int .i64 t2682.2.1) w := fun _ => by kernel_rfl
  go_wp2_with fail
  clear fl2685
  obtain ⟨t2686, HA2687, H⟩ := bind_some H
  refine (shape_Blocks.calls _ t2682.2.1 a1864 a1865 t2686 _ ⟨HGl0.out.pass (l := []) HS.out⟩ ⟨Sep.start _⟩ HA2687).mono ?_
  rintro e_ w2688 ⟨rfl, hS⟩
  replace HS : Aside0 (Sep FF w [b7 g1850 g1852 a1860 a1861 a1862 a1863, b6 g1852 A1855 l1854.length n1857 a1859, r5 A1855 l1854.length n1857 l1854] w2688) := ⟨HS.out.call hS⟩
  clear hS
  by_cases c2689 : t2686.2 = 0
  · replace H := if_yes c2689 H
    have c2689b0 : (t2686.2 == 0) = true := beq_iff_eq.mpr c2689
    have c2689b1 : (t2686.2 != 0) = false := bne_eq_false_iff_eq.mpr c2689
    clear c2689
    go_wp2_with fail
    obtain ⟨t2690, HA2691, H⟩ := bind_some H
    refine (pool_Len.calls l1854 a1859 a1860 a1861 a1862 a1863 g1850 g1852 A1855 l1854.length n1857 t2690 _ ⟨HGl0.out.pass HS.out⟩ ⟨HS.out.begin⟩ HA2691).mono ?_
    rintro e_ w2692 ⟨rfl, hS⟩
    replace HS : Aside0 (Sep FF w [b7 g1850 g1852 a1860 a1861 a1862 a1863, b6 g1852 A1855 l1854.length n1857 t2690.2, r5 A1855 l1854.length n1857 l1854] w2692) := ⟨HS.out.call hS⟩
    clear hS
    by_cases c2693 : t2690.1 < t2686.1
    · replace H := if_yes c2693 H
      have c2693b0 : decide (t2690.1 < t2686.1) = true := decide_eq_true c2693
      clear c2693
      go_wp2_with fail
      go_ret2
      rw [← some_eq H]
      exact ⟨(by first | rfl | (simp [IntKind.wrap_u32]; done)), HS.out⟩
    · replace H := if_no c2693 H
      have c2693b0 : decide (t2690.1 < t2686.1) = false := decide_eq_false c2693
      clear c2693
      go_wp2_with fail
      obtain ⟨t2694, HA2695, H⟩ := bind_some H
      refine (pool_Take.calls _ l1854 t2690.2 a1860 a1861 a1862 a1863 g1850 g1852 A1855 l1854.length n1857 t2694 _ ⟨HGl0.out.pass HS.out⟩ ⟨HS.out.begin⟩ HA2695).mono ?_
      rintro e_ w2696 ⟨rfl, hS⟩
      replace HS : Aside0 (Sep FF w [b7 g1850 g1852 a1860 a1861 a1862 a1863, b6 g1852 A1855 l1854.length n1857 t2694.2.2.1, r5 A1855 l1854.length n1857 t2694.2.2.2] w2696) := ⟨HS.out.call hS⟩
      clear hS
      by_cases c2697 : t2686.1 > 1
      · replace H := if_yes c2697 H
        have c2697b0 : decide (1 < t2686.1) = true := decide_eq_true c2697
        clear c2697
        go_wp2_with fail
        obtain ⟨t2698, HA2699, H⟩ := bind_some H
        refine (obj_mark.calls _ t2694.2.2.2 t2694.2.2.1 a1860 a1861 a1862 a1863 t2694.1 2 0 0 0 0 0 0 g1850 g1852 A1855 l1854.length n1857 t2698 _ ⟨HGl0.out.pass HS.out⟩ ⟨HS.out.begin⟩ HA2699).mono ?_
        rintro e_ w2700 ⟨rfl, hS⟩
        replace HS : Aside0 (Sep FF w [b7 g1850 g1852 a1860 a1861 a1862 a1863, b6 g1852 A1855 l1854.length n1857 t2698.1, r5 A1855 l1854.length n1857 t2698.2] w2700) := ⟨HS.out.call hS⟩
        clear hS
        go_wp2_with fail
        obtain ⟨t2701, HA2702, H⟩ := bind_some H
        refine (ground_Ground_SetWord.calls t2698.2 t2698.1 a1860 a1861 a1862 a1863 t2694.1 1 ((a1864) % 4294967296) g1850 g1852 A1855 l1854.length n1857 t2701 _ ⟨HGl0.out.pass HS.out⟩ ⟨HS.out.begin⟩ HA2702).mono ?_
        rintro e_ w2703 ⟨rfl, hS⟩
        replace HS : Aside0 (Sep FF w [b7 g1850 g1852 a1860 a1861 a1862 a1863, b6 g1852 A1855 l1854.length n1857 t2701.2.1, r5 A1855 l1854.length n1857 t2701.2.2] w2703) := ⟨HS.out.call hS⟩
        clear hS
        go_wp2_with fail
        obtain ⟨t2704, HA2705, H⟩ := bind_some H
        refine (ground_Ground_SetWord.calls t2701.2.2 t2701.2.1 a1860 a1861 a1862 a1863 t2694.1 2 ((a1865) % 4294967296) g1850 g1852 A1855 l1854.length n1857 t2704 _ ⟨HGl0.out.pass HS.out⟩ ⟨HS.out.begin⟩ HA2705).mono ?_
        rintro e_ w2706 ⟨rfl, hS⟩
        replace HS : Aside0 (Sep FF w [b7 g1850 g1852 a1860 a1861 a1862 a1863, b6 g1852 A1855 l1854.length n1857 t2704.2.1, r5 A1855 l1854.length n1857 t2704.2.2] w2706) := ⟨HS.out.call hS⟩
        clear hS
        go_wp2_with fail
        obtain ⟨o2723, AL2724, H⟩ := bind_some H
        go_loopg [56] k (fun kq v56 wc => ∃ (x2727 : Int) (x2728 : List Int) (x2729 : Int), v56 = .int .i64 x2727 ∧ Aside0 (obj_Make.lo0 kq a1860 a1861 a1862 a1863 t2686 t2694 x2727 x2728 x2729 = some o2723) ∧ Aside0 (Sep FF w [b7 g1850 g1852 a1860 a1861 a1862 a1863, b6 g1852 A1855 l1854.length n1857 x2729, r5 A1855 l1854.length n1857 x2728] wc))
        case atStart => exact ⟨(0), (t2704.2.2), (t2704.2.1), (by first | rfl | (simp [IntKind.wrap_u32]; done)), AL2724, ⟨HS.out⟩⟩
        case round =>
          clear AL2724 HS
          obtain ⟨x2727, x2728, x2729, rfl, AL2724, HS⟩ := hrel
          obtain ⟨w2725, rfl⟩ : ∃ x : World, x = wr := ⟨_, rfl⟩
          cases gk with
          | zero => exact absurd AL2724.out (by simp [obj_Make.lo0])
          | succ k2726 =>
            have AL0 := AL2724.out
            rw [obj_Make.lo0] at AL0
            clear AL2724
            have AL2724 := Aside0.mk AL0
            clear AL0
            by_cases c2730 : x2727 < (wrap64 (t2686.1 - 1))
            · replace AL2724 := if_yes c2730 AL2724
              have c2730b0 : decide (x2727 < (wrap64 (t2686.1 - 1))) = true := decide_eq_true c2730
              clear c2730
              go_wp2_with fail
              obtain ⟨t2714, HA2731, AL2724⟩ := bind_some AL2724
              refine (pool_Take.calls _ x2728 x2729 a1860 a1861 a1862 a1863 g1850 g1852 A1855 l1854.length n1857 t2714 _ ⟨HGl0.out.pass HS.out⟩ ⟨HS.out.begin⟩ HA2731).mono ?_
              rintro e_ w2732 ⟨rfl, hS⟩
              replace HS : Aside0 (Sep FF w [b7 g1850 g1852 a1860 a1861 a1862 a1863, b6 g1852 A1855 l1854.length n1857 t2714.2.2.1, r5 A1855 l1854.length n1857 t2714.2.2.2] w2732) := ⟨HS.out.call hS⟩
              clear hS
              go_wp2_with fail
              obtain ⟨t2717, HA2733, AL2724⟩ := bind_some AL2724
              refine (obj_mark.calls _ t2714.2.2.2 t2714.2.2.1 a1860 a1861 a1862 a1863 t2714.1 3 0 0 0 0 0 t2694.1 g1850 g1852 A1855 l1854.length n1857 t2717 _ ⟨HGl0.out.pass HS.out⟩ ⟨HS.out.begin⟩ HA2733).mono ?_
              rintro e_ w2734 ⟨rfl, hS⟩
              replace HS : Aside0 (Sep FF w [b7 g1850 g1852 a1860 a1861 a1862 a1863, b6 g1852 A1855 l1854.length n1857 t2717.1, r5 A1855 l1854.length n1857 t2717.2] w2734) := ⟨HS.out.call hS⟩
              clear hS
              go_wp2_with fail
              obtain ⟨t2720, HA2735, AL2724⟩ := bind_some AL2724
              refine (ground_Ground_SetWord.calls t2717.2 t2717.1 a1860 a1861 a1862 a1863 t2694.1 (wrap64 (8 + x2727)) ((wrap64 (t2714.1 + 1)) % 4294967296) g1850 g1852 A1855 l1854.length n1857 t2720 _ ⟨HGl0.out.pass HS.out⟩ ⟨HS.out.begin⟩ HA2735).mono ?_
              rintro e_ w2736 ⟨rfl, hS⟩
              replace HS : Aside0 (Sep FF w [b7 g1850 g1852 a1860 a1861 a1862 a1863, b6 g1852 A1855 l1854.length n1857 t2720.2.1, r5 A1855 l1854.length n1857 t2720.2.2] w2736) := ⟨HS.out.call hS⟩
              clear hS
              go_wp2_with fail
              go_roundg k2726
              case measure => exact Nat.lt_succ_self _
              case rel => exact ⟨(wrap64 (x2727 + 1)), (t2720.2.2), (t2720.2.1), (by first | rfl | (simp [IntKind.wrap_u32]; done)), Aside0.mk AL2724.out, ⟨HS.out⟩⟩
            · replace AL2724 := if_no c2730 AL2724
              have c2730b0 : decide (x2727 < (wrap64 (t2686.1 - 1))) = false := decide_eq_false c2730
              clear c2730
              have ho := some_eq AL2724
              subst ho
              clear AL2724
              go_wp2_with fail
              go_ret2
              rw [← some_eq H]
              exact ⟨(by first | rfl | (simp [IntKind.wrap_u32]; done)), HS.out⟩
      · replace H := if_no c2697 H
        have c2697b0 : decide (1 < t2686.1) = false := decide_eq_false c2697
        clear c2697
        go_wp2_with fail
        obtain ⟨t2698, HA2738, H⟩ := bind_some H
        refine (obj_mark.calls _ t2694.2.2.2 t2694.2.2.1 a1860 a1861 a1862 a1863 t2694.1 1 0 0 0 0 0 0 g1850 g1852 A1855 l1854.length n1857 t2698 _ ⟨HGl0.out.pass HS.out⟩ ⟨HS.out.begin⟩ HA2738).mono ?_
        rintro e_ w2739 ⟨rfl, hS⟩
        replace HS : Aside0 (Sep FF w [b7 g1850 g1852 a1860 a1861 a1862 a1863, b6 g1852 A1855 l1854.length n1857 t2698.1, r5 A1855 l1854.length n1857 t2698.2] w2739) := ⟨HS.out.call hS⟩
        clear hS
        go_wp2_with fail
        obtain ⟨t2701, HA2740, H⟩ := bind_some H
        refine (ground_Ground_SetWord.calls t2698.2 t2698.1 a1860 a1861 a1862 a1863 t2694.1 1 ((a1864) % 4294967296) g1850 g1852 A1855 l1854.length n1857 t2701 _ ⟨HGl0.out.pass HS.out⟩ ⟨HS.out.begin⟩ HA2740).mono ?_
        rintro e_ w2741 ⟨rfl, hS⟩
        replace HS : Aside0 (Sep FF w [b7 g1850 g1852 a1860 a1861 a1862 a1863, b6 g1852 A1855 l1854.length n1857 t2701.2.1, r5 A1855 l1854.length n1857 t2701.2.2] w2741) := ⟨HS.out.call hS⟩
        clear hS
        go_wp2_with fail
        obtain ⟨t2704, HA2742, H⟩ := bind_some H
        refine (ground_Ground_SetWord.calls t2701.2.2 t2701.2.1 a1860 a1861 a1862 a1863 t2694.1 2 ((a1865) % 4294967296) g1850 g1852 A1855 l1854.length n1857 t2704 _ ⟨HGl0.out.pass HS.out⟩ ⟨HS.out.begin⟩ HA2742).mono ?_
        rintro e_ w2743 ⟨rfl, hS⟩
        replace HS : Aside0 (Sep FF w [b7 g1850 g1852 a1860 a1861 a1862 a1863, b6 g1852 A1855 l1854.length n1857 t2704.2.1, r5 A1855 l1854.length n1857 t2704.2.2] w2743) := ⟨HS.out.call hS⟩
        clear hS
        go_wp2_with fail
        obtain ⟨o2757, AL2758, H⟩ := bind_some H
        go_loopg [56] k (fun kq v56 wc => ∃ (x2761 : Int) (x2762 : List Int) (x2763 : Int), v56 = .int .i64 x2761 ∧ Aside0 (obj_Make.lo1 kq a1860 a1861 a1862 a1863 t2686 t2694 x2761 x2762 x2763 = some o2757) ∧ Aside0 (Sep FF w [b7 g1850 g1852 a1860 a1861 a1862 a1863, b6 g1852 A1855 l1854.length n1857 x2763, r5 A1855 l1854.length n1857 x2762] wc))
        case atStart => exact ⟨(0), (t2704.2.2), (t2704.2.1), (by first | rfl | (simp [IntKind.wrap_u32]; done)), AL2758, ⟨HS.out⟩⟩
        case round =>
          clear AL2758 HS
          obtain ⟨x2761, x2762, x2763, rfl, AL2758, HS⟩ := hrel
          obtain ⟨w2759, rfl⟩ : ∃ x : World, x = wr := ⟨_, rfl⟩
          cases gk with
          | zero => exact absurd AL2758.out (by simp [obj_Make.lo1])
          | succ k2760 =>
            have AL0 := AL2758.out
            rw [obj_Make.lo1] at AL0
            clear AL2758
            have AL2758 := Aside0.mk AL0
            clear AL0
            by_cases c2764 : x2761 < (wrap64 (t2686.1 - 1))
            · replace AL2758 := if_yes c2764 AL2758
              have c2764b0 : decide (x2761 < (wrap64 (t2686.1 - 1))) = true := decide_eq_true c2764
              clear c2764
              go_wp2_with fail
              obtain ⟨t2714, HA2765, AL2758⟩ := bind_some AL2758
              refine (pool_Take.calls _ x2762 x2763 a1860 a1861 a1862 a1863 g1850 g1852 A1855 l1854.length n1857 t2714 _ ⟨HGl0.out.pass HS.out⟩ ⟨HS.out.begin⟩ HA2765).mono ?_
              rintro e_ w2766 ⟨rfl, hS⟩
              replace HS : Aside0 (Sep FF w [b7 g1850 g1852 a1860 a1861 a1862 a1863, b6 g1852 A1855 l1854.length n1857 t2714.2.2.1, r5 A1855 l1854.length n1857 t2714.2.2.2] w2766) := ⟨HS.out.call hS⟩
              clear hS
              go_wp2_with fail
              obtain ⟨t2717, HA2767, AL2758⟩ := bind_some AL2758
              refine (obj_mark.calls _ t2714.2.2.2 t2714.2.2.1 a1860 a1861 a1862 a1863 t2714.1 3 0 0 0 0 0 t2694.1 g1850 g1852 A1855 l1854.length n1857 t2717 _ ⟨HGl0.out.pass HS.out⟩ ⟨HS.out.begin⟩ HA2767).mono ?_
              rintro e_ w2768 ⟨rfl, hS⟩
              replace HS : Aside0 (Sep FF w [b7 g1850 g1852 a1860 a1861 a1862 a1863, b6 g1852 A1855 l1854.length n1857 t2717.1, r5 A1855 l1854.length n1857 t2717.2] w2768) := ⟨HS.out.call hS⟩
              clear hS
              go_wp2_with fail
              obtain ⟨t2720, HA2769, AL2758⟩ := bind_some AL2758
              refine (ground_Ground_SetWord.calls t2717.2 t2717.1 a1860 a1861 a1862 a1863 t2694.1 (wrap64 (8 + x2761)) ((wrap64 (t2714.1 + 1)) % 4294967296) g1850 g1852 A1855 l1854.length n1857 t2720 _ ⟨HGl0.out.pass HS.out⟩ ⟨HS.out.begin⟩ HA2769).mono ?_
              rintro e_ w2770 ⟨rfl, hS⟩
              replace HS : Aside0 (Sep FF w [b7 g1850 g1852 a1860 a1861 a1862 a1863, b6 g1852 A1855 l1854.length n1857 t2720.2.1, r5 A1855 l1854.length n1857 t2720.2.2] w2770) := ⟨HS.out.call hS⟩
              clear hS
              go_wp2_with fail
              go_roundg k2760
              case measure => exact Nat.lt_succ_self _
              case rel => exact ⟨(wrap64 (x2761 + 1)), (t2720.2.2), (t2720.2.1), (by first | rfl | (simp [IntKind.wrap_u32]; done)), Aside0.mk AL2758.out, ⟨HS.out⟩⟩
            · replace AL2758 := if_no c2764 AL2758
              have c2764b0 : decide (x2761 < (wrap64 (t2686.1 - 1))) = false := decide_eq_false c2764
              clear c2764
              have ho := some_eq AL2758
              subst ho
              clear AL2758
              go_wp2_with fail
              go_ret2
              rw [← some_eq H]
              exact ⟨(by first | rfl | (simp [IntKind.wrap_u32]; done)), HS.out⟩
  · replace H := if_no c2689 H
    have c2689b0 : (t2686.2 == 0) = false := beq_eq_false_iff_ne.mpr c2689
    have c2689b1 : (t2686.2 != 0) = true := bne_iff_ne.mpr c2689
    clear c2689
    go_wp2_with fail
    go_ret2
    rw [← some_eq H]
    exact ⟨(by first | rfl | (simp [IntKind.wrap_u32]; done)), HS.out⟩

set_option maxHeartbeats 30000000 in
set_option maxRecDepth 100000 in
theorem pack_Get.calls (a2906 : Int) (a2907 : Int) (a2908 : Int) (r : Int) (w : World)  (HGl0 : Aside0 (Gl 0 #[.int .i64 0, .int .i64 0, .int .i64 0, .int .i64 0, .int .i64 0] (fps []) w)) (HS : Aside0 (Sep (fps []) w [] w)) (H : Aside0 (pack_Get.f a2906 a2907 a2908 = some r)) :
    Calls Tryd.prog 20 #[.int .u32 a2906, .int .i64 a2907, .int .i64 a2908] w fun e w' => e = .returned (.int .u32 r) ∧ Sep (fps []) w [] w' := by
  unfold pack_Get.f at H
  go_enter Tryd.func20, Tryd.ntmps20
  go_wp2_with fail
  obtain ⟨t2909, HA2910, H⟩ := bind_some H
  refine (pack_isPiece.calls a2907 a2908 t2909 _ ⟨HGl0.out.pass (l := []) HS.out⟩ ⟨Sep.start _⟩ HA2910).mono ?_
  rintro e_ w2911 ⟨rfl, hS⟩
  replace HS : Aside0 (Sep (fps []) w [] w2911) := ⟨HS.out.call hS⟩
  clear hS
  by_cases c2912 : t2909 = true
  · replace H := if_yes c2912 H
    have c2912b0 : t2909 = true := c2912
    have c2912b1 : (!t2909) = false := by rw [c2912b0]; rfl
    try rw [c2912b1]
    clear c2912
    go_wp2_with fail
    obtain ⟨t2913, HA2914, H⟩ := bind_some H
    refine (pack_mask.calls a2907 a2908 t2913 _ ⟨HGl0.out.pass (l := []) HS.out⟩ ⟨Sep.start _⟩ HA2914).mono ?_
    rintro e_ w2915 ⟨rfl, hS⟩
    replace HS : Aside0 (Sep (fps []) w [] w2915) := ⟨HS.out.call hS⟩
    clear hS
    by_cases c2916 : 0 ≤ (IntKind.u64.wrap (a2907))
    · replace H := if_yes c2916 H
      have c2916b0 : decide (0 ≤ (IntKind.u64.wrap (a2907))) = true := decide_eq_true c2916
      skip
      go_wp2_with fail
      clear c2916
      go_ret
      rw [← some_eq H]
      exact ⟨(by first | rfl | (simp [IntKind.wrap_u32]; done)), HS.out⟩
    · replace H := if_no c2916 H
      have c2916b0 : decide (0 ≤ (IntKind.u64.wrap (a2907))) = false := decide_eq_false c2916
      exact (none_no H).elim
  · replace H := if_no c2912 H
    have c2912b0 : t2909 = false := by simpa using c2912
    have c2912b1 : (!t2909) = true := by rw [c2912b0]; rfl
    try rw [c2912b1]
    clear c2912
    go_wp2_with fail
    go_ret
    rw [← some_eq H]
    exact ⟨(by first | rfl | (simp [IntKind.wrap_u32]; done)), HS.out⟩

set_option maxHeartbeats 30000000 in
set_option maxRecDepth 100000 in
theorem tag_Unpack_1.calls (a2900 : Int) (a2901 : Int) (a2904 : Int) (g2903 : Nat) (r : Int) (w : World)  (HGl0 : Aside0 (Gl 0 #[.int .i64 0, .int .i64 0, .int .i64 0, .int .i64 0, .int .i64 0] (fps [b18 g2903 a2904]) w)) (HS : Aside0 (Sep (fps [b18 g2903 a2904]) w [b18 g2903 a2904] w)) (H : Aside0 (tag_Unpack_1.f a2900 a2901 a2904 = some r)) :
    Calls Tryd.prog 74 #[.int .i64 a2900, .int .i64 a2901, .pointer (some ⟨g2903, 0, none⟩)] w fun e w' => e = .returned (.int .i64 r) ∧ Sep (fps [b18 g2903 a2904]) w [b18 g2903 a2904] w' := by
  generalize (fps [b18 g2903 a2904]) = FF at HS HGl0 ⊢
  unfold tag_Unpack_1.f at H
  go_enter Tryd.func74, Tryd.ntmps74
  have hc2905 : w.cell? ⟨g2903, 0, none⟩ = some (.int .u32 a2904) := blk_cellv (HS.out.at0) 0 rfl
  go_wp2_with fail
  clear hc2905
  obtain ⟨t2917, HA2918, H⟩ := bind_some H
  refine (pack_Get.calls a2904 a2900 a2901 t2917 _ ⟨HGl0.out.pass (l := []) HS.out⟩ ⟨Sep.start _⟩ HA2918).mono ?_
  rintro e_ w2919 ⟨rfl, hS⟩
  replace HS : Aside0 (Sep FF w [b18 g2903 a2904] w2919) := ⟨HS.out.call hS⟩
  clear hS
  go_wp2_with fail
  go_ret
  rw [← some_eq H]
  exact ⟨(by first | rfl | (simp [IntKind.wrap_u32]; done)), HS.out⟩

set_option maxHeartbeats 30000000 in
set_option maxRecDepth 100000 in
theorem tag_Unpack.calls (a2893 : Int) (r : Int × Int × Int × Int × Int × Int × Int) (w : World)  (HGl0 : Aside0 (Gl 0 #[.int .i64 0, .int .i64 0, .int .i64 0, .int .i64 0, .int .i64 0] (fps []) w)) (HS : Aside0 (Sep (fps []) w [] w)) (H : Aside0 (tag_Unpack.f a2893 = some r)) :
    Calls Tryd.prog 19 #[.int .u32 a2893] w fun e w' => e = .returned (.agg #[.int .i64 r.1, .int .i64 r.2.1, .int .i64 r.2.2.1, .int .i64 r.2.2.2.1, .int .i64 r.2.2.2.2.1, .int .i64 r.2.2.2.2.2.1, .int .i64 r.2.2.2.2.2.2]) ∧ Sep (fps []) w [] w' := by
  unfold tag_Unpack.f at H
  go_enter Tryd.func19, Tryd.ntmps19
  go_wp2_with (first | ((with_reducible refine gate_dst (N := 1) rfl ?_); refine box_on ?hg (N := 1) ?hd (cs := #[.int .u32 a2893]) (t := 33) ?hr ?_; (case hd => rfl); (case hg => rfl); (case hr => first | (go_simp; done) | (go_simp; rfl)); intro g2894 hg w2895 hbox hb; replace HS : Aside0 (Sep (fps []) w [b18 g2894 a2893] w2895) := ⟨HS.out.box hg hbox hb⟩; clear hg hbox hb) | ((with_reducible refine gate_dst (N := 2) rfl ?_); refine box_on ?hg (N := 2) ?hd (cs := #[.int .i64 0, .int .i64 0, .int .i64 0, .int .i64 0, .int .i64 0, .int .i64 0, .int .i64 0]) (t := 32) ?hr ?_; (case hd => rfl); (case hg => rfl); (case hr => first | (go_simp; done) | (go_simp; rfl)); intro g2897 hg w2898 hbox hb; replace HS : Aside0 (Sep (fps []) w [b18 g2894 a2893, b16 g2897 0 0 0 0 0 0 0] w2898) := ⟨HS.out.box hg hbox hb⟩; clear hg hbox hb))
  obtain ⟨t2920, HA2921, H⟩ := bind_some H
  refine (tag_Unpack_1.calls 0 2 a2893 g2894 t2920 _ ⟨HGl0.out.pass HS.out⟩ ⟨HS.out.begin⟩ HA2921).mono ?_
  rintro e_ w2922 ⟨rfl, hS⟩
  replace HS : Aside0 (Sep (fps []) w [b18 g2894 a2893, b16 g2897 0 0 0 0 0 0 0] w2922) := ⟨HS.out.call hS⟩
  clear hS
  go_wp2_with fail
  obtain ⟨t2923, HA2924, H⟩ := bind_some H
  refine (tag_Unpack_1.calls 2 1 a2893 g2894 t2923 _ ⟨HGl0.out.pass HS.out⟩ ⟨HS.out.begin⟩ HA2924).mono ?_
  rintro e_ w2925 ⟨rfl, hS⟩
  replace HS : Aside0 (Sep (fps []) w [b18 g2894 a2893, b16 g2897 0 0 0 0 0 0 0] w2925) := ⟨HS.out.call hS⟩
  clear hS
  go_wp2_with fail
  obtain ⟨t2926, HA2927, H⟩ := bind_some H
  refine (tag_Unpack_1.calls 3 1 a2893 g2894 t2926 _ ⟨HGl0.out.pass HS.out⟩ ⟨HS.out.begin⟩ HA2927).mono ?_
  rintro e_ w2928 ⟨rfl, hS⟩
  replace HS : Aside0 (Sep (fps []) w [b18 g2894 a2893, b16 g2897 0 0 0 0 0 0 0] w2928) := ⟨HS.out.call hS⟩
  clear hS
  go_wp2_with fail
  obtain ⟨t2929, HA2930, H⟩ := bind_some H
  refine (tag_Unpack_1.calls 4 1 a2893 g2894 t2929 _ ⟨HGl0.out.pass HS.out⟩ ⟨HS.out.begin⟩ HA2930).mono ?_
  rintro e_ w2931 ⟨rfl, hS⟩
  replace HS : Aside0 (Sep (fps []) w [b18 g2894 a2893, b16 g2897 0 0 0 0 0 0 0] w2931) := ⟨HS.out.call hS⟩
  clear hS
  go_wp2_with fail
  obtain ⟨t2932, HA2933, H⟩ := bind_some H
  refine (tag_Unpack_1.calls 5 1 a2893 g2894 t2932 _ ⟨HGl0.out.pass HS.out⟩ ⟨HS.out.begin⟩ HA2933).mono ?_
  rintro e_ w2934 ⟨rfl, hS⟩
  replace HS : Aside0 (Sep (fps []) w [b18 g2894 a2893, b16 g2897 0 0 0 0 0 0 0] w2934) := ⟨HS.out.call hS⟩
  clear hS
  go_wp2_with fail
  obtain ⟨t2935, HA2936, H⟩ := bind_some H
  refine (tag_Unpack_1.calls 6 1 a2893 g2894 t2935 _ ⟨HGl0.out.pass HS.out⟩ ⟨HS.out.begin⟩ HA2936).mono ?_
  rintro e_ w2937 ⟨rfl, hS⟩
  replace HS : Aside0 (Sep (fps []) w [b18 g2894 a2893, b16 g2897 0 0 0 0 0 0 0] w2937) := ⟨HS.out.call hS⟩
  clear hS
  go_wp2_with fail
  obtain ⟨t2938, HA2939, H⟩ := bind_some H
  refine (tag_Unpack_1.calls 8 24 a2893 g2894 t2938 _ ⟨HGl0.out.pass HS.out⟩ ⟨HS.out.begin⟩ HA2939).mono ?_
  rintro e_ w2940 ⟨rfl, hS⟩
  replace HS : Aside0 (Sep (fps []) w [b18 g2894 a2893, b16 g2897 0 0 0 0 0 0 0] w2940) := ⟨HS.out.call hS⟩
  clear hS
  have hc2941 : w2940.cell? ⟨g2897, 0, none⟩ = some (.int .i64 0) := blk_cellv (HS.out.at1) 0 rfl
  have hz2942 : w2940.frozen? ⟨g2897, 0, none⟩ = false := blk_fz (HS.out.at1) 0
  have hc2943 : w2940.cell? ⟨g2897, 1, none⟩ = some (.int .i64 0) := blk_cellv (HS.out.at1) 1 rfl
  have hz2944 : w2940.frozen? ⟨g2897, 1, none⟩ = false := blk_fz (HS.out.at1) 1
  have hc2945 : w2940.cell? ⟨g2897, 2, none⟩ = some (.int .i64 0) := blk_cellv (HS.out.at1) 2 rfl
  have hz2946 : w2940.frozen? ⟨g2897, 2, none⟩ = false := blk_fz (HS.out.at1) 2
  have hc2947 : w2940.cell? ⟨g2897, 3, none⟩ = some (.int .i64 0) := blk_cellv (HS.out.at1) 3 rfl
  have hz2948 : w2940.frozen? ⟨g2897, 3, none⟩ = false := blk_fz (HS.out.at1) 3
  have hc2949 : w2940.cell? ⟨g2897, 4, none⟩ = some (.int .i64 0) := blk_cellv (HS.out.at1) 4 rfl
  have hz2950 : w2940.frozen? ⟨g2897, 4, none⟩ = false := blk_fz (HS.out.at1) 4
  have hc2951 : w2940.cell? ⟨g2897, 5, none⟩ = some (.int .i64 0) := blk_cellv (HS.out.at1) 5 rfl
  have hz2952 : w2940.frozen? ⟨g2897, 5, none⟩ = false := blk_fz (HS.out.at1) 5
  have hc2953 : w2940.cell? ⟨g2897, 6, none⟩ = some (.int .i64 0) := blk_cellv (HS.out.at1) 6 rfl
  have hz2954 : w2940.frozen? ⟨g2897, 6, none⟩ = false := blk_fz (HS.out.at1) 6
  go_wp2_with (first | ((with_reducible refine gate_store (t := 32) (p := 2) rfl ?_); refine store_event (w1 := (World.setCell (World.setCell (World.setCell (World.setCell (World.setCell (World.setCell (World.setCell w2940 ⟨g2897, 0, none⟩ (.int .i64 t2920)) ⟨g2897, 1, none⟩ (.int .i64 t2923)) ⟨g2897, 2, none⟩ (.int .i64 t2926)) ⟨g2897, 3, none⟩ (.int .i64 t2929)) ⟨g2897, 4, none⟩ (.int .i64 t2932)) ⟨g2897, 5, none⟩ (.int .i64 t2935)) ⟨g2897, 6, none⟩ (.int .i64 t2938))) rfl (t := 32) (p := 2) rfl rfl ?hr ?_; (case hr => first | (go_simp; done) | (go_simp; rfl)); intro w2955 hst; clear hc2941 hz2942 hc2943 hz2944 hc2945 hz2946 hc2947 hz2948 hc2949 hz2950 hc2951 hz2952 hc2953 hz2954; replace HS : Aside0 (Sep (fps []) w [b18 g2894 a2893, b16 g2897 t2920 t2923 t2926 t2929 t2932 t2935 t2938] w2955) := ⟨by rw [hst]; exact HS.out.setAll (l1 := [b18 g2894 a2893]) (l2 := []) [.int .i64 t2920, .int .i64 t2923, .int .i64 t2926, .int .i64 t2929, .int .i64 t2932, .int .i64 t2935, .int .i64 t2938] rfl⟩; clear hst; replace HS : Aside0 (Sep (fps []) w [b16 g2897 t2920 t2923 t2926 t2929 t2932 t2935 t2938] w2955) := ⟨HS.out.sub (.cons _ (.cons_cons _ .slnil))⟩))
  have hc2956 : w2955.cell? ⟨g2897, 0, none⟩ = some (.int .i64 t2920) := blk_cellv (HS.out.at0) 0 rfl
  have hc2957 : w2955.cell? ⟨g2897, 1, none⟩ = some (.int .i64 t2923) := blk_cellv (HS.out.at0) 1 rfl
  have hc2958 : w2955.cell? ⟨g2897, 2, none⟩ = some (.int .i64 t2926) := blk_cellv (HS.out.at0) 2 rfl
  have hc2959 : w2955.cell? ⟨g2897, 3, none⟩ = some (.int .i64 t2929) := blk_cellv (HS.out.at0) 3 rfl
  have hc2960 : w2955.cell? ⟨g2897, 4, none⟩ = some (.int .i64 t2932) := blk_cellv (HS.out.at0) 4 rfl
  have hc2961 : w2955.cell? ⟨g2897, 5, none⟩ = some (.int .i64 t2935) := blk_cellv (HS.out.at0) 5 rfl
  have hc2962 : w2955.cell? ⟨g2897, 6, none⟩ = some (.int .i64 t2938) := blk_cellv (HS.out.at0) 6 rfl
  refine bodyPost_ret (v := .agg #[.int .i64 t2920, .int .i64 t2923, .int .i64 t2926, .int .i64 t2929, .int .i64 t2932, .int .i64 t2935, .int .i64 t2938]) (by simp [results, Tryd.results19, go_sem, hc2956, hc2957, hc2958, hc2959, hc2960, hc2961, hc2962]) rfl ?_
  rw [← some_eq H]
  exact ⟨(by first | rfl | (simp [IntKind.wrap_u32]; done)), HS.out.sub (.cons _ .slnil)⟩

set_option maxHeartbeats 30000000 in
set_option maxRecDepth 100000 in
theorem tint_of.calls (l2826 : List Int) (a2831 : Int) (a2832 : Int) (a2833 : Int) (a2834 : Int) (a2835 : Int) (a2836 : Int) (g2822 : Nat) (g2824 : Nat) (A2827 : Option Addr) (m2828 : Nat) (n2829 : Nat) (r : Int × Int × Int × Int × Int × Int × Int × Bool × Int) (w : World)  (HGl0 : Aside0 (Gl 0 #[.int .i64 0, .int .i64 0, .int .i64 0, .int .i64 0, .int .i64 0] (fps [b7 g2822 g2824 a2832 a2833 a2834 a2835, b6 g2824 A2827 m2828 n2829 a2831, r5 A2827 m2828 n2829 l2826]) w)) (HS : Aside0 (Sep (fps [b7 g2822 g2824 a2832 a2833 a2834 a2835, b6 g2824 A2827 m2828 n2829 a2831, r5 A2827 m2828 n2829 l2826]) w [b7 g2822 g2824 a2832 a2833 a2834 a2835, b6 g2824 A2827 m2828 n2829 a2831, r5 A2827 m2828 n2829 l2826] w)) (H : Aside0 (tint_of.f l2826 a2831 a2832 a2833 a2834 a2835 a2836 = some r)) :
    Calls Tryd.prog 110 #[.pointer (some ⟨g2822, 0, none⟩), .int .i64 a2836] w fun e w' => e = .returned (.tuple #[.agg #[.int .i64 r.1, .int .i64 r.2.1, .int .i64 r.2.2.1, .int .i64 r.2.2.2.1, .int .i64 r.2.2.2.2.1, .int .i64 r.2.2.2.2.2.1, .int .i64 r.2.2.2.2.2.2.1], .bool r.2.2.2.2.2.2.2.1]) ∧ Sep (fps [b7 g2822 g2824 a2832 a2833 a2834 a2835, b6 g2824 A2827 m2828 n2829 a2831, r5 A2827 m2828 n2829 l2826]) w [b7 g2822 g2824 a2832 a2833 a2834 a2835, b6 g2824 A2827 m2828 n2829 r.2.2.2.2.2.2.2.2, r5 A2827 m2828 n2829 l2826] w' := by
  generalize (fps [b7 g2822 g2824 a2832 a2833 a2834 a2835, b6 g2824 A2827 m2828 n2829 a2831, r5 A2827 m2828 n2829 l2826]) = FF at HS HGl0 ⊢
  obtain rfl := (row_len (HS.out.at2)).symm
  unfold tint_of.f at H
  go_enter Tryd.func110, Tryd.ntmps110
  by_cases c3012 : a2836 < 1
  · replace H := if_yes c3012 H
    have c3012b0 : decide (a2836 < 1) = true := decide_eq_true c3012
    clear c3012
    go_wp2_with (first | ((with_reducible refine gate_dst (N := 4) rfl ?_); refine box_on ?hg (N := 4) ?hd (cs := #[.int .i64 0, .int .i64 0, .int .i64 0, .int .i64 0, .int .i64 0, .int .i64 0, .int .i64 0]) (t := 32) ?hr ?_; (case hd => rfl); (case hg => rfl); (case hr => first | (go_simp; done) | (go_simp; rfl)); intro g3009 hg w3010 hbox hb; replace HS : Aside0 (Sep FF w [b7 g2822 g2824 a2832 a2833 a2834 a2835, b6 g2824 A2827 l2826.length n2829 a2831, r5 A2827 l2826.length n2829 l2826, b16 g3009 0 0 0 0 0 0 0] w3010) := ⟨HS.out.box hg hbox hb⟩; clear hg hbox hb; have hc3013 : w3010.cell? ⟨g3009, 0, none⟩ = some (.int .i64 0) := blk_cellv (HS.out.at3) 0 rfl; have hz3014 : w3010.frozen? ⟨g3009, 0, none⟩ = false := blk_fz (HS.out.at3) 0; have hc3015 : w3010.cell? ⟨g3009, 1, none⟩ = some (.int .i64 0) := blk_cellv (HS.out.at3) 1 rfl; have hz3016 : w3010.frozen? ⟨g3009, 1, none⟩ = false := blk_fz (HS.out.at3) 1; have hc3017 : w3010.cell? ⟨g3009, 2, none⟩ = some (.int .i64 0) := blk_cellv (HS.out.at3) 2 rfl; have hz3018 : w3010.frozen? ⟨g3009, 2, none⟩ = false := blk_fz (HS.out.at3) 2; have hc3019 : w3010.cell? ⟨g3009, 3, none⟩ = some (.int .i64 0) := blk_cellv (HS.out.at3) 3 rfl; have hz3020 : w3010.frozen? ⟨g3009, 3, none⟩ = false := blk_fz (HS.out.at3) 3; have hc3021 : w3010.cell? ⟨g3009, 4, none⟩ = some (.int .i64 0) := blk_cellv (HS.out.at3) 4 rfl; have hz3022 : w3010.frozen? ⟨g3009, 4, none⟩ = false := blk_fz (HS.out.at3) 4; have hc3023 : w3010.cell? ⟨g3009, 5, none⟩ = some (.int .i64 0) := blk_cellv (HS.out.at3) 5 rfl; have hz3024 : w3010.frozen? ⟨g3009, 5, none⟩ = false := blk_fz (HS.out.at3) 5; have hc3025 : w3010.cell? ⟨g3009, 6, none⟩ = some (.int .i64 0) := blk_cellv (HS.out.at3) 6 rfl; have hz3026 : w3010.frozen? ⟨g3009, 6, none⟩ = false := blk_fz (HS.out.at3) 6) | ((with_reducible refine gate_store (t := 32) (p := 4) rfl ?_); refine store_event (w1 := (World.setCell (World.setCell (World.setCell (World.setCell (World.setCell (World.setCell (World.setCell w3010 ⟨g3009, 0, none⟩ (.int .i64 0)) ⟨g3009, 1, none⟩ (.int .i64 0)) ⟨g3009, 2, none⟩ (.int .i64 0)) ⟨g3009, 3, none⟩ (.int .i64 0)) ⟨g3009, 4, none⟩ (.int .i64 0)) ⟨g3009, 5, none⟩ (.int .i64 0)) ⟨g3009, 6, none⟩ (.int .i64 0))) rfl (t := 32) (p := 4) rfl rfl ?hr ?_; (case hr => first | (go_simp; done) | (go_simp; rfl)); intro w3027 hst; clear hc3013 hz3014 hc3015 hz3016 hc3017 hz3018 hc3019 hz3020 hc3021 hz3022 hc3023 hz3024 hc3025 hz3026; replace HS : Aside0 (Sep FF w [b7 g2822 g2824 a2832 a2833 a2834 a2835, b6 g2824 A2827 l2826.length n2829 a2831, r5 A2827 l2826.length n2829 l2826, b16 g3009 0 0 0 0 0 0 0] w3027) := ⟨by rw [hst]; exact HS.out.setAll (l1 := [b7 g2822 g2824 a2832 a2833 a2834 a2835, b6 g2824 A2827 l2826.length n2829 a2831, r5 A2827 l2826.length n2829 l2826]) (l2 := []) [.int .i64 0, .int .i64 0, .int .i64 0, .int .i64 0, .int .i64 0, .int .i64 0, .int .i64 0] rfl⟩; clear hst))
    have hc3028 : w3027.cell? ⟨g3009, 0, none⟩ = some (.int .i64 0) := blk_cellv (HS.out.at3) 0 rfl
    have hc3029 : w3027.cell? ⟨g3009, 1, none⟩ = some (.int .i64 0) := blk_cellv (HS.out.at3) 1 rfl
    have hc3030 : w3027.cell? ⟨g3009, 2, none⟩ = some (.int .i64 0) := blk_cellv (HS.out.at3) 2 rfl
    have hc3031 : w3027.cell? ⟨g3009, 3, none⟩ = some (.int .i64 0) := blk_cellv (HS.out.at3) 3 rfl
    have hc3032 : w3027.cell? ⟨g3009, 4, none⟩ = some (.int .i64 0) := blk_cellv (HS.out.at3) 4 rfl
    have hc3033 : w3027.cell? ⟨g3009, 5, none⟩ = some (.int .i64 0) := blk_cellv (HS.out.at3) 5 rfl
    have hc3034 : w3027.cell? ⟨g3009, 6, none⟩ = some (.int .i64 0) := blk_cellv (HS.out.at3) 6 rfl
    refine bodyPost_ret (v := .tuple #[.agg #[.int .i64 0, .int .i64 0, .int .i64 0, .int .i64 0, .int .i64 0, .int .i64 0, .int .i64 0], .bool false]) (by simp [results, Tryd.results110, go_sem, hc3028, hc3029, hc3030, hc3031, hc3032, hc3033, hc3034]) rfl ?_
    rw [← some_eq H]
    exact ⟨(by first | rfl | (simp [IntKind.wrap_u32]; done)), HS.out.sub (.cons_cons _ (.cons_cons _ (.cons_cons _ (.cons _ .slnil))))⟩
  · replace H := if_no c3012 H
    have c3012b0 : decide (a2836 < 1) = false := decide_eq_false c3012
    clear c3012
    go_wp2_with (first | ((with_reducible refine gate_dst (N := 4) rfl ?_); refine box_on ?hg (N := 4) ?hd (cs := #[.int .i64 0, .int .i64 0, .int .i64 0, .int .i64 0, .int .i64 0, .int .i64 0, .int .i64 0]) (t := 32) ?hr ?_; (case hd => rfl); (case hg => rfl); (case hr => first | (go_simp; done) | (go_simp; rfl)); intro g3009 hg w3010 hbox hb; replace HS : Aside0 (Sep FF w [b7 g2822 g2824 a2832 a2833 a2834 a2835, b6 g2824 A2827 l2826.length n2829 a2831, r5 A2827 l2826.length n2829 l2826, b16 g3009 0 0 0 0 0 0 0] w3010) := ⟨HS.out.box hg hbox hb⟩; clear hg hbox hb))
    obtain ⟨t3035, HA3036, H⟩ := bind_some H
    refine (ground_Ground_Conf.calls l2826 a2831 a2832 a2833 a2834 a2835 g2822 g2824 A2827 l2826.length n2829 t3035 _ ⟨HGl0.out.pass HS.out⟩ ⟨HS.out.begin⟩ HA3036).mono ?_
    rintro e_ w3037 ⟨rfl, hS⟩
    replace HS : Aside0 (Sep FF w [b7 g2822 g2824 a2832 a2833 a2834 a2835, b6 g2824 A2827 l2826.length n2829 a2831, r5 A2827 l2826.length n2829 l2826, b16 g3009 0 0 0 0 0 0 0] w3037) := ⟨HS.out.call hS⟩
    clear hS
    by_cases c3039 : a2836 > t3035.1
    · replace H := if_yes c3039 H
      have c3039b0 : decide (t3035.1 < a2836) = true := decide_eq_true c3039
      clear c3039
      have fl3038 : ∀ w, (Instr.field 30 (.agg #[.int .i64 t3035.1, .int .i64 t3035.2.1, .int .i64 t3035.2.2.1, .int .i64 t3035.2.2.2]) 0).run Tryd.prog w = .ok (.int .i64 t3035.1) w := fun _ => by kernel_rfl
      have hc3040 : w3037.cell? ⟨g3009, 0, none⟩ = some (.int .i64 0) := blk_cellv (HS.out.at3) 0 rfl
      have hz3041 : w3037.frozen? ⟨g3009, 0, none⟩ = false := blk_fz (HS.out.at3) 0
      have hc3042 : w3037.cell? ⟨g3009, 1, none⟩ = some (.int .i64 0) := blk_cellv (HS.out.at3) 1 rfl
      have hz3043 : w3037.frozen? ⟨g3009, 1, none⟩ = false := blk_fz (HS.out.at3) 1
      have hc3044 : w3037.cell? ⟨g3009, 2, none⟩ = some (.int .i64 0) := blk_cellv (HS.out.at3) 2 rfl
      have hz3045 : w3037.frozen? ⟨g3009, 2, none⟩ = false := blk_fz (HS.out.at3) 2
      have hc3046 : w3037.cell? ⟨g3009, 3, none⟩ = some (.int .i64 0) := blk_cellv (HS.out.at3) 3 rfl
      have hz3047 : w3037.frozen? ⟨g3009, 3, none⟩ = false := blk_fz (HS.out.at3) 3
      have hc3048 : w3037.cell? ⟨g3009, 4, none⟩ = some (.int .i64 0) := blk_cellv (HS.out.at3) 4 rfl
      have hz3049 : w3037.frozen? ⟨g3009, 4, none⟩ = false := blk_fz (HS.out.at3) 4
      have hc3050 : w3037.cell? ⟨g3009, 5, none⟩ = some (.int .i64 0) := blk_cellv (HS.out.at3) 5 rfl
      have hz3051 : w3037.frozen? ⟨g3009, 5, none⟩ = false := blk_fz (HS.out.at3) 5
      have hc3052 : w3037.cell? ⟨g3009, 6, none⟩ = some (.int .i64 0) := blk_cellv (HS.out.at3) 6 rfl
      have hz3053 : w3037.frozen? ⟨g3009, 6, none⟩ = false := blk_fz (HS.out.at3) 6
      go_wp2_with (first | ((with_reducible refine gate_store (t := 32) (p := 4) rfl ?_); refine store_event (w1 := (World.setCell (World.setCell (World.setCell (World.setCell (World.setCell (World.setCell (World.setCell w3037 ⟨g3009, 0, none⟩ (.int .i64 0)) ⟨g3009, 1, none⟩ (.int .i64 0)) ⟨g3009, 2, none⟩ (.int .i64 0)) ⟨g3009, 3, none⟩ (.int .i64 0)) ⟨g3009, 4, none⟩ (.int .i64 0)) ⟨g3009, 5, none⟩ (.int .i64 0)) ⟨g3009, 6, none⟩ (.int .i64 0))) rfl (t := 32) (p := 4) rfl rfl ?hr ?_; (case hr => first | (go_simp; done) | (go_simp; rfl)); intro w3054 hst; clear fl3038 hc3040 hz3041 hc3042 hz3043 hc3044 hz3045 hc3046 hz3047 hc3048 hz3049 hc3050 hz3051 hc3052 hz3053; replace HS : Aside0 (Sep FF w [b7 g2822 g2824 a2832 a2833 a2834 a2835, b6 g2824 A2827 l2826.length n2829 a2831, r5 A2827 l2826.length n2829 l2826, b16 g3009 0 0 0 0 0 0 0] w3054) := ⟨by rw [hst]; exact HS.out.setAll (l1 := [b7 g2822 g2824 a2832 a2833 a2834 a2835, b6 g2824 A2827 l2826.length n2829 a2831, r5 A2827 l2826.length n2829 l2826]) (l2 := []) [.int .i64 0, .int .i64 0, .int .i64 0, .int .i64 0, .int .i64 0, .int .i64 0, .int .i64 0] rfl⟩; clear hst))
      have hc3055 : w3054.cell? ⟨g3009, 0, none⟩ = some (.int .i64 0) := blk_cellv (HS.out.at3) 0 rfl
      have hc3056 : w3054.cell? ⟨g3009, 1, none⟩ = some (.int .i64 0) := blk_cellv (HS.out.at3) 1 rfl
      have hc3057 : w3054.cell? ⟨g3009, 2, none⟩ = some (.int .i64 0) := blk_cellv (HS.out.at3) 2 rfl
      have hc3058 : w3054.cell? ⟨g3009, 3, none⟩ = some (.int .i64 0) := blk_cellv (HS.out.at3) 3 rfl
      have hc3059 : w3054.cell? ⟨g3009, 4, none⟩ = some (.int .i64 0) := blk_cellv (HS.out.at3) 4 rfl
      have hc3060 : w3054.cell? ⟨g3009, 5, none⟩ = some (.int .i64 0) := blk_cellv (HS.out.at3) 5 rfl
      have hc3061 : w3054.cell? ⟨g3009, 6, none⟩ = some (.int .i64 0) := blk_cellv (HS.out.at3) 6 rfl
      refine bodyPost_ret (v := .tuple #[.agg #[.int .i64 0, .int .i64 0, .int .i64 0, .int .i64 0, .int .i64 0, .int .i64 0, .int .i64 0], .bool false]) (by simp [results, Tryd.results110, go_sem, hc3055, hc3056, hc3057, hc3058, hc3059, hc3060, hc3061]) rfl ?_
      rw [← some_eq H]
      exact ⟨(by first | rfl | (simp [IntKind.wrap_u32]; done)), HS.out.sub (.cons_cons _ (.cons_cons _ (.cons_cons _ (.cons _ .slnil))))⟩
    · replace H := if_no c3039 H
      have c3039b0 : decide (t3035.1 < a2836) = false := decide_eq_false c3039
      clear c3039
      have fl3038 : ∀ w, (Instr.field 30 (.agg #[.int .i64 t3035.1, .int .i64 t3035.2.1, .int .i64 t3035.2.2.1, .int .i64 t3035.2.2.2]) 0).run Tryd.prog w = .ok (.int .i64 t3035.1) w := fun _ => by kernel_rfl
      go_wp2_with fail
      clear fl3038
      obtain ⟨t3062, HA3063, H⟩ := bind_some H
      refine (ground_Ground_Word.calls l2826 a2831 a2832 a2833 a2834 a2835 (wrap64 (a2836 - 1)) 0 g2822 g2824 A2827 l2826.length n2829 t3062 _ ⟨HGl0.out.pass HS.out⟩ ⟨HS.out.begin⟩ HA3063).mono ?_
      rintro e_ w3064 ⟨rfl, hS⟩
      replace HS : Aside0 (Sep FF w [b7 g2822 g2824 a2832 a2833 a2834 a2835, b6 g2824 A2827 l2826.length n2829 t3062.2, r5 A2827 l2826.length n2829 l2826, b16 g3009 0 0 0 0 0 0 0] w3064) := ⟨HS.out.call hS⟩
      clear hS
      go_wp2_with fail
      obtain ⟨t3065, HA3066, H⟩ := bind_some H
      refine (tag_Unpack.calls t3062.1 t3065 _ ⟨HGl0.out.pass (l := []) HS.out⟩ ⟨Sep.start _⟩ HA3066).mono ?_
      rintro e_ w3067 ⟨rfl, hS⟩
      replace HS : Aside0 (Sep FF w [b7 g2822 g2824 a2832 a2833 a2834 a2835, b6 g2824 A2827 l2826.length n2829 t3062.2, r5 A2827 l2826.length n2829 l2826, b16 g3009 0 0 0 0 0 0 0] w3067) := ⟨HS.out.call hS⟩
      clear hS
      go_wp2_with (first | ((with_reducible refine gate_dst (N := 6) rfl ?_); refine box_on ?hg (N := 6) ?hd (cs := #[.int .i64 0, .int .i64 0, .int .i64 0, .int .i64 0, .int .i64 0, .int .i64 0, .int .i64 0]) (t := 32) ?hr ?_; (case hd => rfl); (case hg => rfl); (case hr => first | (go_simp; done) | (go_simp; rfl)); intro g3068 hg w3069 hbox hb; replace HS : Aside0 (Sep FF w [b7 g2822 g2824 a2832 a2833 a2834 a2835, b6 g2824 A2827 l2826.length n2829 t3062.2, r5 A2827 l2826.length n2829 l2826, b16 g3009 0 0 0 0 0 0 0, b16 g3068 0 0 0 0 0 0 0] w3069) := ⟨HS.out.box hg hbox hb⟩; clear hg hbox hb; have hc3071 : w3069.cell? ⟨g3068, 0, none⟩ = some (.int .i64 0) := blk_cellv (HS.out.at4) 0 rfl; have hz3072 : w3069.frozen? ⟨g3068, 0, none⟩ = false := blk_fz (HS.out.at4) 0; have hc3073 : w3069.cell? ⟨g3068, 1, none⟩ = some (.int .i64 0) := blk_cellv (HS.out.at4) 1 rfl; have hz3074 : w3069.frozen? ⟨g3068, 1, none⟩ = false := blk_fz (HS.out.at4) 1; have hc3075 : w3069.cell? ⟨g3068, 2, none⟩ = some (.int .i64 0) := blk_cellv (HS.out.at4) 2 rfl; have hz3076 : w3069.frozen? ⟨g3068, 2, none⟩ = false := blk_fz (HS.out.at4) 2; have hc3077 : w3069.cell? ⟨g3068, 3, none⟩ = some (.int .i64 0) := blk_cellv (HS.out.at4) 3 rfl; have hz3078 : w3069.frozen? ⟨g3068, 3, none⟩ = false := blk_fz (HS.out.at4) 3; have hc3079 : w3069.cell? ⟨g3068, 4, none⟩ = some (.int .i64 0) := blk_cellv (HS.out.at4) 4 rfl; have hz3080 : w3069.frozen? ⟨g3068, 4, none⟩ = false := blk_fz (HS.out.at4) 4; have hc3081 : w3069.cell? ⟨g3068, 5, none⟩ = some (.int .i64 0) := blk_cellv (HS.out.at4) 5 rfl; have hz3082 : w3069.frozen? ⟨g3068, 5, none⟩ = false := blk_fz (HS.out.at4) 5; have hc3083 : w3069.cell? ⟨g3068, 6, none⟩ = some (.int .i64 0) := blk_cellv (HS.out.at4) 6 rfl; have hz3084 : w3069.frozen? ⟨g3068, 6, none⟩ = false := blk_fz (HS.out.at4) 6) | ((with_reducible refine gate_store (t := 32) (p := 6) rfl ?_); refine store_event (w1 := (World.setCell (World.setCell (World.setCell (World.setCell (World.setCell (World.setCell (World.setCell w3069 ⟨g3068, 0, none⟩ (.int .i64 t3065.1)) ⟨g3068, 1, none⟩ (.int .i64 t3065.2.1)) ⟨g3068, 2, none⟩ (.int .i64 t3065.2.2.1)) ⟨g3068, 3, none⟩ (.int .i64 t3065.2.2.2.1)) ⟨g3068, 4, none⟩ (.int .i64 t3065.2.2.2.2.1)) ⟨g3068, 5, none⟩ (.int .i64 t3065.2.2.2.2.2.1)) ⟨g3068, 6, none⟩ (.int .i64 t3065.2.2.2.2.2.2))) rfl (t := 32) (p := 6) rfl rfl ?hr ?_; (case hr => first | (go_simp; done) | (go_simp; rfl)); intro w3085 hst; clear hc3071 hz3072 hc3073 hz3074 hc3075 hz3076 hc3077 hz3078 hc3079 hz3080 hc3081 hz3082 hc3083 hz3084; replace HS : Aside0 (Sep FF w [b7 g2822 g2824 a2832 a2833 a2834 a2835, b6 g2824 A2827 l2826.length n2829 t3062.2, r5 A2827 l2826.length n2829 l2826, b16 g3009 0 0 0 0 0 0 0, b16 g3068 t3065.1 t3065.2.1 t3065.2.2.1 t3065.2.2.2.1 t3065.2.2.2.2.1 t3065.2.2.2.2.2.1 t3065.2.2.2.2.2.2] w3085) := ⟨by rw [hst]; exact HS.out.setAll (l1 := [b7 g2822 g2824 a2832 a2833 a2834 a2835, b6 g2824 A2827 l2826.length n2829 t3062.2, r5 A2827 l2826.length n2829 l2826, b16 g3009 0 0 0 0 0 0 0]) (l2 := []) [.int .i64 t3065.1, .int .i64 t3065.2.1, .int .i64 t3065.2.2.1, .int .i64 t3065.2.2.2.1, .int .i64 t3065.2.2.2.2.1, .int .i64 t3065.2.2.2.2.2.1, .int .i64 t3065.2.2.2.2.2.2] rfl⟩; clear hst))
      refine start_ (n := 11) (S := (fun w' => w'.cell? ⟨g3068, 0, none⟩ = some (.int .i64 t3065.1) ∧ w'.cell? ⟨g3068, 1, none⟩ = some (.int .i64 t3065.2.1) ∧ w'.cell? ⟨g3068, 2, none⟩ = some (.int .i64 t3065.2.2.1) ∧ w'.cell? ⟨g3068, 3, none⟩ = some (.int .i64 t3065.2.2.2.1) ∧ w'.cell? ⟨g3068, 4, none⟩ = some (.int .i64 t3065.2.2.2.2.1) ∧ w'.cell? ⟨g3068, 5, none⟩ = some (.int .i64 t3065.2.2.2.2.2.1) ∧ w'.cell? ⟨g3068, 6, none⟩ = some (.int .i64 t3065.2.2.2.2.2.2))) (ds := []) #[false, false, false, false, false, false, false, false, false, false, false] (by kernel_rfl) rfl rfl (⟨blk_cellv ((HS.out.drew).at4) 0 rfl, blk_cellv ((HS.out.drew).at4) 1 rfl, blk_cellv ((HS.out.drew).at4) 2 rfl, blk_cellv ((HS.out.drew).at4) 3 rfl, blk_cellv ((HS.out.drew).at4) 4 rfl, blk_cellv ((HS.out.drew).at4) 5 rfl, blk_cellv ((HS.out.drew).at4) 6 rfl⟩) (fun hHeld => ?_)
      have HS_ := Aside0.mk HS.out.drew
      clear HS
      generalize World.drew _ = w3087 at HS_ hHeld ⊢
      have HS := HS_
      clear HS_
      refine pure_ (i := 1) (N := some 27) (v := ?_) (a' := ?_) #[false, true, false, false, false, false, false, false, false, false, false] rfl rfl (by kernel_rfl) (fun _ _ _ h => h) (Or.inl ⟨by rfl, ?_⟩) ?_ ?_
      rotate_left
      · intro w'
        go_simp
        with_reducible rfl
      rotate_left
      · simp only [Act.put, List.setIfInBounds_toArray, List.set_cons_zero, List.set_cons_succ, i64_w, i32_w]
        rfl
      refine take_ (i := 0) (N := some 26) (v := ?_) (a' := ?_) #[true, true, false, false, false, false, false, false, false, false, false] rfl rfl (by kernel_rfl) (fun _ _ _ h => h) (Or.inl ⟨by rfl, ?_⟩) hHeld ?_ ?_
      rotate_left
      · rintro w' hS'
        obtain ⟨s0, s1, s2, s3, s4, s5, s6⟩ := hS'
        go_simp
        with_reducible rfl
      rotate_left
      · simp only [Act.put, List.setIfInBounds_toArray, List.set_cons_zero, List.set_cons_succ, i64_w, i32_w]
        rfl
      refine take_ (i := 2) (N := some 28) (v := ?_) (a' := ?_) #[true, true, true, false, false, false, false, false, false, false, false] rfl rfl (by kernel_rfl) (fun _ _ _ h => h) (Or.inl ⟨by rfl, ?_⟩) hHeld ?_ ?_
      rotate_left
      · rintro w' hS'
        obtain ⟨s0, s1, s2, s3, s4, s5, s6⟩ := hS'
        go_simp
        with_reducible rfl
      rotate_left
      · simp only [Act.put, List.setIfInBounds_toArray, List.set_cons_zero, List.set_cons_succ, i64_w, i32_w]
        rfl
      refine pure_ (i := 3) (N := some 29) (v := ?_) (a' := ?_) #[true, true, true, true, false, false, false, false, false, false, false] rfl rfl (by kernel_rfl) (fun _ _ _ h => h) (Or.inl ⟨by rfl, ?_⟩) ?_ ?_
      rotate_left
      · intro w'
        go_simp
        with_reducible rfl
      rotate_left
      · simp only [Act.put, List.setIfInBounds_toArray, List.set_cons_zero, List.set_cons_succ, i64_w, i32_w]
        rfl
      refine pure_ (i := 4) (N := some 30) (v := ?_) (a' := ?_) #[true, true, true, true, true, false, false, false, false, false, false] rfl rfl (by kernel_rfl) (fun _ _ _ h => h) (Or.inl ⟨by rfl, ?_⟩) ?_ ?_
      rotate_left
      · intro w'
        go_simp
        with_reducible rfl
      rotate_left
      · simp only [Act.put, List.setIfInBounds_toArray, List.set_cons_zero, List.set_cons_succ, i64_w, i32_w]
        rfl
      by_cases c3088 : t3065.1 = 1
      · replace H := if_yes c3088 H
        have c3088b0 : (t3065.1 == 1) = true := beq_iff_eq.mpr c3088
        have c3088b1 : (t3065.1 != 1) = false := bne_eq_false_iff_eq.mpr c3088
        clear c3088
        try simp only [c3088b0, Bool.not_true, Bool.not_false]
        refine pure_ (i := 5) (N := some 31) (v := undef) (a' := ?_) #[true, true, true, true, true, true, false, false, false, false, false] rfl rfl (by kernel_rfl) (fun _ _ _ h => h) (Or.inr ⟨by rfl, rfl⟩) ?_ ?_
        rotate_left
        · simp only [Act.put, List.setIfInBounds_toArray, List.set_cons_zero, List.set_cons_succ, i64_w, i32_w]
          rfl
        try simp only [c3088b0, Bool.not_true, Bool.not_false]
        refine pure_ (i := 6) (N := some 32) (v := undef) (a' := ?_) #[true, true, true, true, true, true, true, false, false, false, false] rfl rfl (by kernel_rfl) (fun _ _ _ h => h) (Or.inr ⟨by rfl, rfl⟩) ?_ ?_
        rotate_left
        · simp only [Act.put, List.setIfInBounds_toArray, List.set_cons_zero, List.set_cons_succ, i64_w, i32_w]
          rfl
        try simp only [c3088b0, Bool.not_true, Bool.not_false]
        refine pure_ (i := 7) (N := some 33) (v := undef) (a' := ?_) #[true, true, true, true, true, true, true, true, false, false, false] rfl rfl (by kernel_rfl) (fun _ _ _ h => h) (Or.inr ⟨by rfl, rfl⟩) ?_ ?_
        rotate_left
        · simp only [Act.put, List.setIfInBounds_toArray, List.set_cons_zero, List.set_cons_succ, i64_w, i32_w]
          rfl
        refine pure_ (i := 8) (N := some 34) (v := ?_) (a' := ?_) #[true, true, true, true, true, true, true, true, true, false, false] rfl rfl (by kernel_rfl) (fun _ _ _ h => h) (Or.inl ⟨by rfl, ?_⟩) ?_ ?_
        rotate_left
        · intro w'
          go_simp
          with_reducible rfl
        rotate_left
        · simp only [Act.put, List.setIfInBounds_toArray, List.set_cons_zero, List.set_cons_succ, i64_w, i32_w]
          rfl
        refine one_ (i := 9) (N := none) #[true, true, true, true, true, true, true, true, true, true, false] rfl rfl (by kernel_rfl) (by decide) (fun K hK => ?_)
        have hc3090 := blk_cellv (v := .int .i64 0) (HS.out.at3) 0 rfl
        have hz3091 := blk_fz (HS.out.at3) 0
        have hc3092 := blk_cellv (v := .int .i64 0) (HS.out.at3) 1 rfl
        have hz3093 := blk_fz (HS.out.at3) 1
        have hc3094 := blk_cellv (v := .int .i64 0) (HS.out.at3) 2 rfl
        have hz3095 := blk_fz (HS.out.at3) 2
        have hc3096 := blk_cellv (v := .int .i64 0) (HS.out.at3) 3 rfl
        have hz3097 := blk_fz (HS.out.at3) 3
        have hc3098 := blk_cellv (v := .int .i64 0) (HS.out.at3) 4 rfl
        have hz3099 := blk_fz (HS.out.at3) 4
        have hc3100 := blk_cellv (v := .int .i64 0) (HS.out.at3) 5 rfl
        have hz3101 := blk_fz (HS.out.at3) 5
        have hc3102 := blk_cellv (v := .int .i64 0) (HS.out.at3) 6 rfl
        have hz3103 := blk_fz (HS.out.at3) 6
        refine store_step (w1 := (World.setCell (World.setCell (World.setCell (World.setCell (World.setCell (World.setCell (World.setCell w3087 ⟨g3009, 0, none⟩ (.int .i64 t3065.1)) ⟨g3009, 1, none⟩ (.int .i64 t3065.2.1)) ⟨g3009, 2, none⟩ (.int .i64 t3065.2.2.1)) ⟨g3009, 3, none⟩ (.int .i64 t3065.2.2.2.1)) ⟨g3009, 4, none⟩ (.int .i64 t3065.2.2.2.2.1)) ⟨g3009, 5, none⟩ (.int .i64 t3065.2.2.2.2.2.1)) ⟨g3009, 6, none⟩ (.int .i64 t3065.2.2.2.2.2.2))) (by rfl) rfl ?hr ?_
        case hr => first | (go_simp; done) | (go_simp; rfl)
        clear hc3090 hz3091 hc3092 hz3093 hc3094 hz3095 hc3096 hz3097 hc3098 hz3099 hc3100 hz3101 hc3102 hz3103
        intro w3089 hst
        replace HS : Aside0 (Sep FF w [b7 g2822 g2824 a2832 a2833 a2834 a2835, b6 g2824 A2827 l2826.length n2829 t3062.2, r5 A2827 l2826.length n2829 l2826, b16 g3009 t3065.1 t3065.2.1 t3065.2.2.1 t3065.2.2.2.1 t3065.2.2.2.2.1 t3065.2.2.2.2.2.1 t3065.2.2.2.2.2.2, b16 g3068 t3065.1 t3065.2.1 t3065.2.2.1 t3065.2.2.2.1 t3065.2.2.2.2.1 t3065.2.2.2.2.2.1 t3065.2.2.2.2.2.2] w3089) := ⟨by rw [hst]; exact HS.out.setAll (l1 := [b7 g2822 g2824 a2832 a2833 a2834 a2835, b6 g2824 A2827 l2826.length n2829 t3062.2, r5 A2827 l2826.length n2829 l2826]) (l2 := [b16 g3068 t3065.1 t3065.2.1 t3065.2.2.1 t3065.2.2.2.1 t3065.2.2.2.2.1 t3065.2.2.2.2.2.1 t3065.2.2.2.2.2.2]) [.int .i64 t3065.1, .int .i64 t3065.2.1, .int .i64 t3065.2.2.1, .int .i64 t3065.2.2.2.1, .int .i64 t3065.2.2.2.2.1, .int .i64 t3065.2.2.2.2.2.1, .int .i64 t3065.2.2.2.2.2.2] rfl⟩
        clear hst
        refine hK.out _ _ (⟨blk_cellv (HS.out.at4) 0 rfl, blk_cellv (HS.out.at4) 1 rfl, blk_cellv (HS.out.at4) 2 rfl, blk_cellv (HS.out.at4) 3 rfl, blk_cellv (HS.out.at4) 4 rfl, blk_cellv (HS.out.at4) 5 rfl, blk_cellv (HS.out.at4) 6 rfl⟩) (fun hHeld => ?_)
        clear hK K
        refine pure_ (i := 10) (N := some 5) (v := ?_) (a' := ?_) #[true, true, true, true, true, true, true, true, true, true, true] rfl rfl (by kernel_rfl) (fun _ _ _ h => h) (Or.inl ⟨by rfl, ?_⟩) ?_ ?_
        rotate_left
        · intro w'
          go_simp
          with_reducible rfl
        rotate_left
        · simp only [Act.put, List.setIfInBounds_toArray, List.set_cons_zero, List.set_cons_succ, i64_w, i32_w]
          rfl
        refine done_ (by kernel_rfl) ?_
        replace HS : Aside0 (Sep FF w [b7 g2822 g2824 a2832 a2833 a2834 a2835, b6 g2824 A2827 l2826.length n2829 t3062.2, r5 A2827 l2826.length n2829 l2826, b16 g3009 t3065.1 t3065.2.1 t3065.2.2.1 t3065.2.2.2.1 t3065.2.2.2.2.1 t3065.2.2.2.2.2.1 t3065.2.2.2.2.2.2] w3089) := ⟨HS.out.sub (.cons_cons _ (.cons_cons _ (.cons_cons _ (.cons_cons _ (.cons _ .slnil)))))⟩
        go_wp2_with fail
        have hc3104 : w3089.cell? ⟨g3009, 0, none⟩ = some (.int .i64 t3065.1) := blk_cellv (HS.out.at3) 0 rfl
        have hc3105 : w3089.cell? ⟨g3009, 1, none⟩ = some (.int .i64 t3065.2.1) := blk_cellv (HS.out.at3) 1 rfl
        have hc3106 : w3089.cell? ⟨g3009, 2, none⟩ = some (.int .i64 t3065.2.2.1) := blk_cellv (HS.out.at3) 2 rfl
        have hc3107 : w3089.cell? ⟨g3009, 3, none⟩ = some (.int .i64 t3065.2.2.2.1) := blk_cellv (HS.out.at3) 3 rfl
        have hc3108 : w3089.cell? ⟨g3009, 4, none⟩ = some (.int .i64 t3065.2.2.2.2.1) := blk_cellv (HS.out.at3) 4 rfl
        have hc3109 : w3089.cell? ⟨g3009, 5, none⟩ = some (.int .i64 t3065.2.2.2.2.2.1) := blk_cellv (HS.out.at3) 5 rfl
        have hc3110 : w3089.cell? ⟨g3009, 6, none⟩ = some (.int .i64 t3065.2.2.2.2.2.2) := blk_cellv (HS.out.at3) 6 rfl
        refine bodyPost_ret (v := .tuple #[.agg #[.int .i64 t3065.1, .int .i64 t3065.2.1, .int .i64 t3065.2.2.1, .int .i64 t3065.2.2.2.1, .int .i64 t3065.2.2.2.2.1, .int .i64 t3065.2.2.2.2.2.1, .int .i64 t3065.2.2.2.2.2.2], .bool true]) (by simp [results, Tryd.results110, go_sem, hc3104, hc3105, hc3106, hc3107, hc3108, hc3109, hc3110]) rfl ?_
        rw [← some_eq H]
        exact ⟨(by first | rfl | (simp [IntKind.wrap_u32]; done)), HS.out.sub (.cons_cons _ (.cons_cons _ (.cons_cons _ (.cons _ .slnil))))⟩
      · replace H := if_no c3088 H
        have c3088b0 : (t3065.1 == 1) = false := beq_eq_false_iff_ne.mpr c3088
        have c3088b1 : (t3065.1 != 1) = true := bne_iff_ne.mpr c3088
        clear c3088
        try simp only [c3088b0, Bool.not_true, Bool.not_false]
        refine pure_ (i := 5) (N := some 31) (v := ?_) (a' := ?_) #[true, true, true, true, true, true, false, false, false, false, false] rfl rfl (by kernel_rfl) (fun _ _ _ h => h) (Or.inl ⟨by rfl, ?_⟩) ?_ ?_
        rotate_left
        · intro w'
          go_simp
          with_reducible rfl
        rotate_left
        · simp only [Act.put, List.setIfInBounds_toArray, List.set_cons_zero, List.set_cons_succ, i64_w, i32_w]
          rfl
        try simp only [c3088b0, Bool.not_true, Bool.not_false]
        refine take_ (i := 6) (N := some 32) (v := ?_) (a' := ?_) #[true, true, true, true, true, true, true, false, false, false, false] rfl rfl (by kernel_rfl) (fun _ _ _ h => h) (Or.inl ⟨by rfl, ?_⟩) hHeld ?_ ?_
        rotate_left
        · rintro w' hS'
          obtain ⟨s0, s1, s2, s3, s4, s5, s6⟩ := hS'
          go_simp
          with_reducible rfl
        rotate_left
        · simp only [Act.put, List.setIfInBounds_toArray, List.set_cons_zero, List.set_cons_succ, i64_w, i32_w]
          rfl
        try simp only [c3088b0, Bool.not_true, Bool.not_false]
        refine pure_ (i := 7) (N := some 33) (v := ?_) (a' := ?_) #[true, true, true, true, true, true, true, true, false, false, false] rfl rfl (by kernel_rfl) (fun _ _ _ h => h) (Or.inl ⟨by rfl, ?_⟩) ?_ ?_
        rotate_left
        · intro w'
          go_simp
          with_reducible rfl
        rotate_left
        · simp only [Act.put, List.setIfInBounds_toArray, List.set_cons_zero, List.set_cons_succ, i64_w, i32_w]
          rfl
        refine pure_ (i := 8) (N := some 34) (v := ?_) (a' := ?_) #[true, true, true, true, true, true, true, true, true, false, false] rfl rfl (by kernel_rfl) (fun _ _ _ h => h) (Or.inl ⟨by rfl, ?_⟩) ?_ ?_
        rotate_left
        · intro w'
          go_simp
          with_reducible rfl
        rotate_left
        · simp only [Act.put, List.setIfInBounds_toArray, List.set_cons_zero, List.set_cons_succ, i64_w, i32_w]
          rfl
        refine one_ (i := 9) (N := none) #[true, true, true, true, true, true, true, true, true, true, false] rfl rfl (by kernel_rfl) (by decide) (fun K hK => ?_)
        have hc3112 := blk_cellv (v := .int .i64 0) (HS.out.at3) 0 rfl
        have hz3113 := blk_fz (HS.out.at3) 0
        have hc3114 := blk_cellv (v := .int .i64 0) (HS.out.at3) 1 rfl
        have hz3115 := blk_fz (HS.out.at3) 1
        have hc3116 := blk_cellv (v := .int .i64 0) (HS.out.at3) 2 rfl
        have hz3117 := blk_fz (HS.out.at3) 2
        have hc3118 := blk_cellv (v := .int .i64 0) (HS.out.at3) 3 rfl
        have hz3119 := blk_fz (HS.out.at3) 3
        have hc3120 := blk_cellv (v := .int .i64 0) (HS.out.at3) 4 rfl
        have hz3121 := blk_fz (HS.out.at3) 4
        have hc3122 := blk_cellv (v := .int .i64 0) (HS.out.at3) 5 rfl
        have hz3123 := blk_fz (HS.out.at3) 5
        have hc3124 := blk_cellv (v := .int .i64 0) (HS.out.at3) 6 rfl
        have hz3125 := blk_fz (HS.out.at3) 6
        refine store_step (w1 := (World.setCell (World.setCell (World.setCell (World.setCell (World.setCell (World.setCell (World.setCell w3087 ⟨g3009, 0, none⟩ (.int .i64 t3065.1)) ⟨g3009, 1, none⟩ (.int .i64 t3065.2.1)) ⟨g3009, 2, none⟩ (.int .i64 t3065.2.2.1)) ⟨g3009, 3, none⟩ (.int .i64 t3065.2.2.2.1)) ⟨g3009, 4, none⟩ (.int .i64 t3065.2.2.2.2.1)) ⟨g3009, 5, none⟩ (.int .i64 t3065.2.2.2.2.2.1)) ⟨g3009, 6, none⟩ (.int .i64 t3065.2.2.2.2.2.2))) (by rfl) rfl ?hr ?_
        case hr => first | (go_simp; done) | (go_simp; rfl)
        clear hc3112 hz3113 hc3114 hz3115 hc3116 hz3117 hc3118 hz3119 hc3120 hz3121 hc3122 hz3123 hc3124 hz3125
        intro w3111 hst
        replace HS : Aside0 (Sep FF w [b7 g2822 g2824 a2832 a2833 a2834 a2835, b6 g2824 A2827 l2826.length n2829 t3062.2, r5 A2827 l2826.length n2829 l2826, b16 g3009 t3065.1 t3065.2.1 t3065.2.2.1 t3065.2.2.2.1 t3065.2.2.2.2.1 t3065.2.2.2.2.2.1 t3065.2.2.2.2.2.2, b16 g3068 t3065.1 t3065.2.1 t3065.2.2.1 t3065.2.2.2.1 t3065.2.2.2.2.1 t3065.2.2.2.2.2.1 t3065.2.2.2.2.2.2] w3111) := ⟨by rw [hst]; exact HS.out.setAll (l1 := [b7 g2822 g2824 a2832 a2833 a2834 a2835, b6 g2824 A2827 l2826.length n2829 t3062.2, r5 A2827 l2826.length n2829 l2826]) (l2 := [b16 g3068 t3065.1 t3065.2.1 t3065.2.2.1 t3065.2.2.2.1 t3065.2.2.2.2.1 t3065.2.2.2.2.2.1 t3065.2.2.2.2.2.2]) [.int .i64 t3065.1, .int .i64 t3065.2.1, .int .i64 t3065.2.2.1, .int .i64 t3065.2.2.2.1, .int .i64 t3065.2.2.2.2.1, .int .i64 t3065.2.2.2.2.2.1, .int .i64 t3065.2.2.2.2.2.2] rfl⟩
        clear hst
        refine hK.out _ _ (⟨blk_cellv (HS.out.at4) 0 rfl, blk_cellv (HS.out.at4) 1 rfl, blk_cellv (HS.out.at4) 2 rfl, blk_cellv (HS.out.at4) 3 rfl, blk_cellv (HS.out.at4) 4 rfl, blk_cellv (HS.out.at4) 5 rfl, blk_cellv (HS.out.at4) 6 rfl⟩) (fun hHeld => ?_)
        clear hK K
        refine pure_ (i := 10) (N := some 5) (v := ?_) (a' := ?_) #[true, true, true, true, true, true, true, true, true, true, true] rfl rfl (by kernel_rfl) (fun _ _ _ h => h) (Or.inl ⟨by rfl, ?_⟩) ?_ ?_
        rotate_left
        · intro w'
          go_simp
          with_reducible rfl
        rotate_left
        · simp only [Act.put, List.setIfInBounds_toArray, List.set_cons_zero, List.set_cons_succ, i64_w, i32_w]
          rfl
        refine done_ (by kernel_rfl) ?_
        replace HS : Aside0 (Sep FF w [b7 g2822 g2824 a2832 a2833 a2834 a2835, b6 g2824 A2827 l2826.length n2829 t3062.2, r5 A2827 l2826.length n2829 l2826, b16 g3009 t3065.1 t3065.2.1 t3065.2.2.1 t3065.2.2.2.1 t3065.2.2.2.2.1 t3065.2.2.2.2.2.1 t3065.2.2.2.2.2.2] w3111) := ⟨HS.out.sub (.cons_cons _ (.cons_cons _ (.cons_cons _ (.cons_cons _ (.cons _ .slnil)))))⟩
        go_wp2_with fail
        have hc3126 : w3111.cell? ⟨g3009, 0, none⟩ = some (.int .i64 t3065.1) := blk_cellv (HS.out.at3) 0 rfl
        have hc3127 : w3111.cell? ⟨g3009, 1, none⟩ = some (.int .i64 t3065.2.1) := blk_cellv (HS.out.at3) 1 rfl
        have hc3128 : w3111.cell? ⟨g3009, 2, none⟩ = some (.int .i64 t3065.2.2.1) := blk_cellv (HS.out.at3) 2 rfl
        have hc3129 : w3111.cell? ⟨g3009, 3, none⟩ = some (.int .i64 t3065.2.2.2.1) := blk_cellv (HS.out.at3) 3 rfl
        have hc3130 : w3111.cell? ⟨g3009, 4, none⟩ = some (.int .i64 t3065.2.2.2.2.1) := blk_cellv (HS.out.at3) 4 rfl
        have hc3131 : w3111.cell? ⟨g3009, 5, none⟩ = some (.int .i64 t3065.2.2.2.2.2.1) := blk_cellv (HS.out.at3) 5 rfl
        have hc3132 : w3111.cell? ⟨g3009, 6, none⟩ = some (.int .i64 t3065.2.2.2.2.2.2) := blk_cellv (HS.out.at3) 6 rfl
        refine bodyPost_ret (v := .tuple #[.agg #[.int .i64 t3065.1, .int .i64 t3065.2.1, .int .i64 t3065.2.2.1, .int .i64 t3065.2.2.2.1, .int .i64 t3065.2.2.2.2.1, .int .i64 t3065.2.2.2.2.2.1, .int .i64 t3065.2.2.2.2.2.2], .bool (t3065.1 == 2)]) (by simp [results, Tryd.results110, go_sem, hc3126, hc3127, hc3128, hc3129, hc3130, hc3131, hc3132]) rfl ?_
        rw [← some_eq H]
        exact ⟨(by first | rfl | (simp [IntKind.wrap_u32]; done)), HS.out.sub (.cons_cons _ (.cons_cons _ (.cons_cons _ (.cons _ .slnil))))⟩

set_option maxHeartbeats 30000000 in
set_option maxRecDepth 100000 in
theorem tint_Parity.calls (l3160 : List Int) (a3165 : Int) (a3166 : Int) (a3167 : Int) (a3168 : Int) (a3169 : Int) (g3156 : Nat) (g3158 : Nat) (A3161 : Option Addr) (m3162 : Nat) (n3163 : Nat) (r : Int × Int) (w : World)  (HGl0 : Aside0 (Gl 0 #[.int .i64 0, .int .i64 0, .int .i64 0, .int .i64 0, .int .i64 0] (fps [b7 g3156 g3158 a3166 a3167 a3168 a3169, b6 g3158 A3161 m3162 n3163 a3165, r5 A3161 m3162 n3163 l3160]) w)) (HS : Aside0 (Sep (fps [b7 g3156 g3158 a3166 a3167 a3168 a3169, b6 g3158 A3161 m3162 n3163 a3165, r5 A3161 m3162 n3163 l3160]) w [b7 g3156 g3158 a3166 a3167 a3168 a3169, b6 g3158 A3161 m3162 n3163 a3165, r5 A3161 m3162 n3163 l3160] w)) (H : Aside0 (tint_Parity.f l3160 a3165 a3166 a3167 a3168 a3169 = some r)) :
    Calls Tryd.prog 111 #[.pointer (some ⟨g3156, 0, none⟩)] w fun e w' => e = .returned (.int .i64 r.1) ∧ Sep (fps [b7 g3156 g3158 a3166 a3167 a3168 a3169, b6 g3158 A3161 m3162 n3163 a3165, r5 A3161 m3162 n3163 l3160]) w [b7 g3156 g3158 a3166 a3167 a3168 a3169, b6 g3158 A3161 m3162 n3163 r.2, r5 A3161 m3162 n3163 l3160] w' := by
  generalize (fps [b7 g3156 g3158 a3166 a3167 a3168 a3169, b6 g3158 A3161 m3162 n3163 a3165, r5 A3161 m3162 n3163 l3160]) = FF at HS HGl0 ⊢
  obtain rfl := (row_len (HS.out.at2)).symm
  unfold tint_Parity.f at H
  go_enter Tryd.func111, Tryd.ntmps111
  go_wp2_with fail
  obtain ⟨t3173, HA3174, H⟩ := bind_some H
  refine (ground_Ground_Reg.calls l3160 a3165 a3166 a3167 a3168 a3169 10 g3156 g3158 A3161 l3160.length n3163 t3173 _ ⟨HGl0.out.pass HS.out⟩ ⟨HS.out.begin⟩ HA3174).mono ?_
  rintro e_ w3175 ⟨rfl, hS⟩
  replace HS : Aside0 (Sep FF w [b7 g3156 g3158 a3166 a3167 a3168 a3169, b6 g3158 A3161 l3160.length n3163 t3173.2, r5 A3161 l3160.length n3163 l3160] w3175) := ⟨HS.out.call hS⟩
  clear hS
  go_wp2_with fail
  go_ret
  rw [← some_eq H]
  exact ⟨(by first | rfl | (simp [IntKind.wrap_u32]; done)), HS.out⟩

set_option maxHeartbeats 30000000 in
set_option maxRecDepth 100000 in
theorem tint_Dye_1.calls (a3181 : Int) (a3182 : Int) (a3183 : Int) (a3184 : Int) (a3185 : Int) (a3186 : Int) (a3187 : Int) (a3188 : Int) (l3196 : List Int) (a3201 : Int) (a3202 : Int) (a3203 : Int) (a3204 : Int) (a3205 : Int) (a3208 : Int) (g3180 : Nat) (g3190 : Nat) (g3192 : Nat) (g3194 : Nat) (A3197 : Option Addr) (m3198 : Nat) (n3199 : Nat) (g3207 : Nat) (r : Int × Int × Int × Int × List Int) (w : World)  (HGl0 : Aside0 (Gl 0 #[.int .i64 0, .int .i64 0, .int .i64 0, .int .i64 0, .int .i64 0] (fps [b16 g3180 a3181 a3182 a3183 a3184 a3185 a3186 a3187, b9 g3190 g3192, b7 g3192 g3194 a3202 a3203 a3204 a3205, b6 g3194 A3197 m3198 n3199 a3201, r5 A3197 m3198 n3199 l3196, b10 g3207 a3208]) w)) (HS : Aside0 (Sep (fps [b16 g3180 a3181 a3182 a3183 a3184 a3185 a3186 a3187, b9 g3190 g3192, b7 g3192 g3194 a3202 a3203 a3204 a3205, b6 g3194 A3197 m3198 n3199 a3201, r5 A3197 m3198 n3199 l3196, b10 g3207 a3208]) w [b16 g3180 a3181 a3182 a3183 a3184 a3185 a3186 a3187, b9 g3190 g3192, b7 g3192 g3194 a3202 a3203 a3204 a3205, b6 g3194 A3197 m3198 n3199 a3201, r5 A3197 m3198 n3199 l3196, b10 g3207 a3208] w)) (H : Aside0 (tint_Dye_1.f a3181 a3182 a3183 a3184 a3185 a3186 a3187 a3188 l3196 a3201 a3202 a3203 a3204 a3205 a3208 = some r)) :
    Calls Tryd.prog 108 #[.pointer (some ⟨g3180, 0, none⟩), .int .i64 a3188, .pointer (some ⟨g3190, 0, none⟩), .pointer (some ⟨g3207, 0, none⟩)] w fun e w' => e = .returned (.tuple #[]) ∧ Sep (fps [b16 g3180 a3181 a3182 a3183 a3184 a3185 a3186 a3187, b9 g3190 g3192, b7 g3192 g3194 a3202 a3203 a3204 a3205, b6 g3194 A3197 m3198 n3199 a3201, r5 A3197 m3198 n3199 l3196, b10 g3207 a3208]) w [b16 g3180 a3181 r.1 r.2.1 r.2.2.1 a3185 a3186 a3187, b9 g3190 g3192, b7 g3192 g3194 a3202 a3203 a3204 a3205, b6 g3194 A3197 m3198 n3199 r.2.2.2.1, r5 A3197 m3198 n3199 r.2.2.2.2, b10 g3207 a3208] w' := by
  generalize (fps [b16 g3180 a3181 a3182 a3183 a3184 a3185 a3186 a3187, b9 g3190 g3192, b7 g3192 g3194 a3202 a3203 a3204 a3205, b6 g3194 A3197 m3198 n3199 a3201, r5 A3197 m3198 n3199 l3196, b10 g3207 a3208]) = FF at HS HGl0 ⊢
  obtain rfl := (row_len (HS.out.at4)).symm
  unfold tint_Dye_1.f at H
  go_enter Tryd.func108, Tryd.ntmps108
  have hc3223 : w.cell? ⟨g3180, 1, none⟩ = some (.int .i64 a3182) := blk_cellv (HS.out.at0) 1 rfl
  have hz3224 : w.frozen? ⟨g3180, 1, none⟩ = false := blk_fz (HS.out.at0) 1
  go_wp2_with (first | ((with_reducible refine gate_store (t := 3) (p := 13) rfl ?_); refine store_event (w1 := (World.setCell w ⟨g3180, 1, none⟩ (.int .i64 a3188))) rfl (t := 3) (p := 13) rfl rfl ?hr ?_; (case hr => first | (go_simp; done) | (go_simp; rfl)); intro w3225 hst; clear hc3223 hz3224; have hq0 : Sep FF w [b16 g3180 a3181 a3188 a3183 a3184 a3185 a3186 a3187, b9 g3190 g3192, b7 g3192 g3194 a3202 a3203 a3204 a3205, b6 g3194 A3197 l3196.length n3199 a3201, r5 A3197 l3196.length n3199 l3196, b10 g3207 a3208] (World.setCell w ⟨g3180, 1, none⟩ (.int .i64 a3188)) := (HS.out).set1 (l1 := []) (l2 := [b9 g3190 g3192, b7 g3192 g3194 a3202 a3203 a3204 a3205, b6 g3194 A3197 l3196.length n3199 a3201, r5 A3197 l3196.length n3199 l3196, b10 g3207 a3208]) 1 (.int .i64 a3188); replace HS : Aside0 (Sep FF w [b16 g3180 a3181 a3188 a3183 a3184 a3185 a3186 a3187, b9 g3190 g3192, b7 g3192 g3194 a3202 a3203 a3204 a3205, b6 g3194 A3197 l3196.length n3199 a3201, r5 A3197 l3196.length n3199 l3196, b10 g3207 a3208] w3225) := ⟨by rw [hst]; exact hq0⟩; clear hq0; clear hst; have hc3226 : w3225.cell? ⟨g3180, 2, none⟩ = some (.int .i64 a3183) := blk_cellv (HS.out.at0) 2 rfl; have hz3227 : w3225.frozen? ⟨g3180, 2, none⟩ = false := blk_fz (HS.out.at0) 2) | ((with_reducible refine gate_store (t := 3) (p := 15) rfl ?_); refine store_event (w1 := (World.setCell w3225 ⟨g3180, 2, none⟩ (.int .i64 a3188))) rfl (t := 3) (p := 15) rfl rfl ?hr ?_; (case hr => first | (go_simp; done) | (go_simp; rfl)); intro w3228 hst; clear hc3226 hz3227; have hq0 : Sep FF w [b16 g3180 a3181 a3188 a3188 a3184 a3185 a3186 a3187, b9 g3190 g3192, b7 g3192 g3194 a3202 a3203 a3204 a3205, b6 g3194 A3197 l3196.length n3199 a3201, r5 A3197 l3196.length n3199 l3196, b10 g3207 a3208] (World.setCell w3225 ⟨g3180, 2, none⟩ (.int .i64 a3188)) := (HS.out).set1 (l1 := []) (l2 := [b9 g3190 g3192, b7 g3192 g3194 a3202 a3203 a3204 a3205, b6 g3194 A3197 l3196.length n3199 a3201, r5 A3197 l3196.length n3199 l3196, b10 g3207 a3208]) 2 (.int .i64 a3188); replace HS : Aside0 (Sep FF w [b16 g3180 a3181 a3188 a3188 a3184 a3185 a3186 a3187, b9 g3190 g3192, b7 g3192 g3194 a3202 a3203 a3204 a3205, b6 g3194 A3197 l3196.length n3199 a3201, r5 A3197 l3196.length n3199 l3196, b10 g3207 a3208] w3228) := ⟨by rw [hst]; exact hq0⟩; clear hq0; clear hst; have hc3229 : w3228.cell? ⟨g3180, 3, none⟩ = some (.int .i64 a3184) := blk_cellv (HS.out.at0) 3 rfl; have hz3230 : w3228.frozen? ⟨g3180, 3, none⟩ = false := blk_fz (HS.out.at0) 3) | ((with_reducible refine gate_store (t := 3) (p := 17) rfl ?_); refine store_event (w1 := (World.setCell w3228 ⟨g3180, 3, none⟩ (.int .i64 a3188))) rfl (t := 3) (p := 17) rfl rfl ?hr ?_; (case hr => first | (go_simp; done) | (go_simp; rfl)); intro w3231 hst; clear hc3229 hz3230; have hq0 : Sep FF w [b16 g3180 a3181 a3188 a3188 a3188 a3185 a3186 a3187, b9 g3190 g3192, b7 g3192 g3194 a3202 a3203 a3204 a3205, b6 g3194 A3197 l3196.length n3199 a3201, r5 A3197 l3196.length n3199 l3196, b10 g3207 a3208] (World.setCell w3228 ⟨g3180, 3, none⟩ (.int .i64 a3188)) := (HS.out).set1 (l1 := []) (l2 := [b9 g3190 g3192, b7 g3192 g3194 a3202 a3203 a3204 a3205, b6 g3194 A3197 l3196.length n3199 a3201, r5 A3197 l3196.length n3199 l3196, b10 g3207 a3208]) 3 (.int .i64 a3188); replace HS : Aside0 (Sep FF w [b16 g3180 a3181 a3188 a3188 a3188 a3185 a3186 a3187, b9 g3190 g3192, b7 g3192 g3194 a3202 a3203 a3204 a3205, b6 g3194 A3197 l3196.length n3199 a3201, r5 A3197 l3196.length n3199 l3196, b10 g3207 a3208] w3231) := ⟨by rw [hst]; exact hq0⟩; clear hq0; clear hst; have hc3232 : w3231.cell? ⟨g3190, 0, none⟩ = some (.pointer (some ⟨g3192, 0, none⟩)) := blk_cellv (HS.out.at1) 0 rfl; have hc3233 : w3231.cell? ⟨g3207, 0, none⟩ = some (.int .i64 a3208) := blk_cellv (HS.out.at5) 0 rfl))
  clear hc3232 hc3233
  replace HS : Aside0 (Sep FF w [r5 A3197 l3196.length n3199 l3196, b16 g3180 a3181 a3188 a3188 a3188 a3185 a3186 a3187, b9 g3190 g3192, b7 g3192 g3194 a3202 a3203 a3204 a3205, b6 g3194 A3197 l3196.length n3199 a3201, b10 g3207 a3208] w3231) := ⟨HS.out.front 4 (by simp)⟩
  replace HS : Aside0 (Sep FF w [b6 g3194 A3197 l3196.length n3199 a3201, r5 A3197 l3196.length n3199 l3196, b16 g3180 a3181 a3188 a3188 a3188 a3185 a3186 a3187, b9 g3190 g3192, b7 g3192 g3194 a3202 a3203 a3204 a3205, b10 g3207 a3208] w3231) := ⟨HS.out.front 4 (by simp)⟩
  replace HS : Aside0 (Sep FF w [b7 g3192 g3194 a3202 a3203 a3204 a3205, b6 g3194 A3197 l3196.length n3199 a3201, r5 A3197 l3196.length n3199 l3196, b16 g3180 a3181 a3188 a3188 a3188 a3185 a3186 a3187, b9 g3190 g3192, b10 g3207 a3208] w3231) := ⟨HS.out.front 4 (by simp)⟩
  obtain ⟨t3234, HA3235, H⟩ := bind_some H
  refine (ground_Ground_SetWord.calls l3196 a3201 a3202 a3203 a3204 a3205 (wrap64 (a3208 - 1)) 4 0 g3192 g3194 A3197 l3196.length n3199 t3234 _ ⟨HGl0.out.pass HS.out⟩ ⟨HS.out.begin⟩ HA3235).mono ?_
  rintro e_ w3236 ⟨rfl, hS⟩
  replace HS : Aside0 (Sep FF w [b7 g3192 g3194 a3202 a3203 a3204 a3205, b6 g3194 A3197 l3196.length n3199 t3234.2.1, r5 A3197 l3196.length n3199 t3234.2.2, b16 g3180 a3181 a3188 a3188 a3188 a3185 a3186 a3187, b9 g3190 g3192, b10 g3207 a3208] w3236) := ⟨HS.out.call hS⟩
  clear hS
  go_wp2_with fail
  first | go_end0 | refine bodyPost_ret (results_none rfl _ _ _) rfl ?_
  rw [← some_eq H]
  exact ⟨rfl, (((((((HS.out).front 5 (by simp)).front 3 (by simp)).front 3 (by simp)).front 3 (by simp)).front 5 (by simp)).front 5 (by simp)).keep (l := [b16 g3180 a3181 a3188 a3188 a3188 a3185 a3186 a3187, b9 g3190 g3192, b7 g3192 g3194 a3202 a3203 a3204 a3205, b6 g3194 A3197 l3196.length n3199 t3234.2.1, r5 A3197 l3196.length n3199 t3234.2.2, b10 g3207 a3208]) (rest := [])⟩

set_option maxHeartbeats 30000000 in
set_option maxRecDepth 100000 in
theorem tint_change_F108.calls (k : Nat) (l2805 : List Int) (a2810 : Int) (a2811 : Int) (a2812 : Int) (a2813 : Int) (a2814 : Int) (a2815 : Int) (a2820 : Int) (g2801 : Nat) (g2803 : Nat) (A2806 : Option Addr) (m2807 : Nat) (n2808 : Nat) (g2817 : Nat) (g2819 : Nat) (r : Bool × Int × List Int) (w : World)  (HGl0 : Aside0 (Gl 0 #[.int .i64 0, .int .i64 0, .int .i64 0, .int .i64 0, .int .i64 0] (fps [b7 g2801 g2803 a2811 a2812 a2813 a2814, b6 g2803 A2806 m2807 n2808 a2810, r5 A2806 m2807 n2808 l2805, b9 g2817 g2801, b10 g2819 a2820]) w)) (HS : Aside0 (Sep (fps [b7 g2801 g2803 a2811 a2812 a2813 a2814, b6 g2803 A2806 m2807 n2808 a2810, r5 A2806 m2807 n2808 l2805, b9 g2817 g2801, b10 g2819 a2820]) w [b7 g2801 g2803 a2811 a2812 a2813 a2814, b6 g2803 A2806 m2807 n2808 a2810, r5 A2806 m2807 n2808 l2805, b9 g2817 g2801, b10 g2819 a2820] w)) (H : Aside0 (tint_change_F108.f k l2805 a2810 a2811 a2812 a2813 a2814 a2815 a2820 = some r)) :
    Calls Tryd.prog 107 #[.pointer (some ⟨g2801, 0, none⟩), .int .i64 a2815, .func (.func 108) #[] #[.pointer (some ⟨g2817, 0, none⟩), .pointer (some ⟨g2819, 0, none⟩)]] w fun e w' => e = .returned (.bool r.1) ∧ Sep (fps [b7 g2801 g2803 a2811 a2812 a2813 a2814, b6 g2803 A2806 m2807 n2808 a2810, r5 A2806 m2807 n2808 l2805, b9 g2817 g2801, b10 g2819 a2820]) w [b7 g2801 g2803 a2811 a2812 a2813 a2814, b6 g2803 A2806 m2807 n2808 r.2.1, r5 A2806 m2807 n2808 r.2.2, b9 g2817 g2801, b10 g2819 a2820] w' := by
  generalize (fps [b7 g2801 g2803 a2811 a2812 a2813 a2814, b6 g2803 A2806 m2807 n2808 a2810, r5 A2806 m2807 n2808 l2805, b9 g2817 g2801, b10 g2819 a2820]) = FF at HS HGl0 ⊢
  obtain rfl := (row_len (HS.out.at2)).symm
  unfold tint_change_F108.f at H
  go_enter Tryd.func107, Tryd.ntmps107
  go_wp2_with fail
  obtain ⟨t3254, HA3255, H⟩ := bind_some H
  refine (tint_of.calls l2805 a2810 a2811 a2812 a2813 a2814 a2815 g2801 g2803 A2806 l2805.length n2808 t3254 _ ⟨HGl0.out.pass HS.out⟩ ⟨HS.out.begin⟩ HA3255).mono ?_
  rintro e_ w3256 ⟨rfl, hS⟩
  replace HS : Aside0 (Sep FF w [b7 g2801 g2803 a2811 a2812 a2813 a2814, b6 g2803 A2806 l2805.length n2808 t3254.2.2.2.2.2.2.2.2, r5 A2806 l2805.length n2808 l2805, b9 g2817 g2801, b10 g2819 a2820] w3256) := ⟨HS.out.call hS⟩
  clear hS
  by_cases c3275 : t3254.2.2.2.2.2.2.2.1 = true
  · replace H := if_yes c3275 H
    have c3275b0 : t3254.2.2.2.2.2.2.2.1 = true := c3275
    have c3275b1 : (!t3254.2.2.2.2.2.2.2.1) = false := by rw [c3275b0]; rfl
    try rw [c3275b1]
    clear c3275
    go_wp2_with (first | ((with_reducible refine gate_dst (N := 7) rfl ?_); refine box_on ?hg (N := 7) ?hd (cs := #[.int .i64 0, .int .i64 0, .int .i64 0, .int .i64 0, .int .i64 0, .int .i64 0, .int .i64 0]) (t := 32) ?hr ?_; (case hd => rfl); (case hg => rfl); (case hr => first | (go_simp; done) | (go_simp; rfl)); intro g3257 hg w3258 hbox hb; replace HS : Aside0 (Sep FF w [b7 g2801 g2803 a2811 a2812 a2813 a2814, b6 g2803 A2806 l2805.length n2808 t3254.2.2.2.2.2.2.2.2, r5 A2806 l2805.length n2808 l2805, b9 g2817 g2801, b10 g2819 a2820, b16 g3257 0 0 0 0 0 0 0] w3258) := ⟨HS.out.box hg hbox hb⟩; clear hg hbox hb; have hc3260 : w3258.cell? ⟨g3257, 0, none⟩ = some (.int .i64 0) := blk_cellv (HS.out.at5) 0 rfl; have hz3261 : w3258.frozen? ⟨g3257, 0, none⟩ = false := blk_fz (HS.out.at5) 0; have hc3262 : w3258.cell? ⟨g3257, 1, none⟩ = some (.int .i64 0) := blk_cellv (HS.out.at5) 1 rfl; have hz3263 : w3258.frozen? ⟨g3257, 1, none⟩ = false := blk_fz (HS.out.at5) 1; have hc3264 : w3258.cell? ⟨g3257, 2, none⟩ = some (.int .i64 0) := blk_cellv (HS.out.at5) 2 rfl; have hz3265 : w3258.frozen? ⟨g3257, 2, none⟩ = false := blk_fz (HS.out.at5) 2; have hc3266 : w3258.cell? ⟨g3257, 3, none⟩ = some (.int .i64 0) := blk_cellv (HS.out.at5) 3 rfl; have hz3267 : w3258.frozen? ⟨g3257, 3, none⟩ = false := blk_fz (HS.out.at5) 3; have hc3268 : w3258.cell? ⟨g3257, 4, none⟩ = some (.int .i64 0) := blk_cellv (HS.out.at5) 4 rfl; have hz3269 : w3258.frozen? ⟨g3257, 4, none⟩ = false := blk_fz (HS.out.at5) 4; have hc3270 : w3258.cell? ⟨g3257, 5, none⟩ = some (.int .i64 0) := blk_cellv (HS.out.at5) 5 rfl; have hz3271 : w3258.frozen? ⟨g3257, 5, none⟩ = false := blk_fz (HS.out.at5) 5; have hc3272 : w3258.cell? ⟨g3257, 6, none⟩ = some (.int .i64 0) := blk_cellv (HS.out.at5) 6 rfl; have hz3273 : w3258.frozen? ⟨g3257, 6, none⟩ = false := blk_fz (HS.out.at5) 6) | ((with_reducible refine gate_store (t := 32) (p := 7) rfl ?_); refine store_event (w1 := (World.setCell (World.setCell (World.setCell (World.setCell (World.setCell (World.setCell (World.setCell w3258 ⟨g3257, 0, none⟩ (.int .i64 t3254.1)) ⟨g3257, 1, none⟩ (.int .i64 t3254.2.1)) ⟨g3257, 2, none⟩ (.int .i64 t3254.2.2.1)) ⟨g3257, 3, none⟩ (.int .i64 t3254.2.2.2.1)) ⟨g3257, 4, none⟩ (.int .i64 t3254.2.2.2.2.1)) ⟨g3257, 5, none⟩ (.int .i64 t3254.2.2.2.2.2.1)) ⟨g3257, 6, none⟩ (.int .i64 t3254.2.2.2.2.2.2.1))) rfl (t := 32) (p := 7) rfl rfl ?hr ?_; (case hr => first | (go_simp; done) | (go_simp; rfl)); intro w3274 hst; clear hc3260 hz3261 hc3262 hz3263 hc3264 hz3265 hc3266 hz3267 hc3268 hz3269 hc3270 hz3271 hc3272 hz3273; replace HS : Aside0 (Sep FF w [b7 g2801 g2803 a2811 a2812 a2813 a2814, b6 g2803 A2806 l2805.length n2808 t3254.2.2.2.2.2.2.2.2, r5 A2806 l2805.length n2808 l2805, b9 g2817 g2801, b10 g2819 a2820, b16 g3257 t3254.1 t3254.2.1 t3254.2.2.1 t3254.2.2.2.1 t3254.2.2.2.2.1 t3254.2.2.2.2.2.1 t3254.2.2.2.2.2.2.1] w3274) := ⟨by rw [hst]; exact HS.out.setAll (l1 := [b7 g2801 g2803 a2811 a2812 a2813 a2814, b6 g2803 A2806 l2805.length n2808 t3254.2.2.2.2.2.2.2.2, r5 A2806 l2805.length n2808 l2805, b9 g2817 g2801, b10 g2819 a2820]) (l2 := []) [.int .i64 t3254.1, .int .i64 t3254.2.1, .int .i64 t3254.2.2.1, .int .i64 t3254.2.2.2.1, .int .i64 t3254.2.2.2.2.1, .int .i64 t3254.2.2.2.2.2.1, .int .i64 t3254.2.2.2.2.2.2.1] rfl⟩; clear hst))
    obtain ⟨t3276, HA3277, H⟩ := bind_some H
    refine (tint_Parity.calls l2805 t3254.2.2.2.2.2.2.2.2 a2811 a2812 a2813 a2814 g2801 g2803 A2806 l2805.length n2808 t3276 _ ⟨HGl0.out.pass HS.out⟩ ⟨HS.out.begin⟩ HA3277).mono ?_
    rintro e_ w3278 ⟨rfl, hS⟩
    replace HS : Aside0 (Sep FF w [b7 g2801 g2803 a2811 a2812 a2813 a2814, b6 g2803 A2806 l2805.length n2808 t3276.2, r5 A2806 l2805.length n2808 l2805, b9 g2817 g2801, b10 g2819 a2820, b16 g3257 t3254.1 t3254.2.1 t3254.2.2.1 t3254.2.2.2.1 t3254.2.2.2.2.1 t3254.2.2.2.2.2.1 t3254.2.2.2.2.2.2.1] w3278) := ⟨HS.out.call hS⟩
    clear hS
    go_wp2_with fail
    replace HS : Aside0 (Sep FF w [b10 g2819 a2820, b7 g2801 g2803 a2811 a2812 a2813 a2814, b6 g2803 A2806 l2805.length n2808 t3276.2, r5 A2806 l2805.length n2808 l2805, b9 g2817 g2801, b16 g3257 t3254.1 t3254.2.1 t3254.2.2.1 t3254.2.2.2.1 t3254.2.2.2.2.1 t3254.2.2.2.2.2.1 t3254.2.2.2.2.2.2.1] w3278) := ⟨HS.out.front 4 (by simp)⟩
    replace HS : Aside0 (Sep FF w [r5 A2806 l2805.length n2808 l2805, b10 g2819 a2820, b7 g2801 g2803 a2811 a2812 a2813 a2814, b6 g2803 A2806 l2805.length n2808 t3276.2, b9 g2817 g2801, b16 g3257 t3254.1 t3254.2.1 t3254.2.2.1 t3254.2.2.2.1 t3254.2.2.2.2.1 t3254.2.2.2.2.2.1 t3254.2.2.2.2.2.2.1] w3278) := ⟨HS.out.front 3 (by simp)⟩
    replace HS : Aside0 (Sep FF w [b6 g2803 A2806 l2805.length n2808 t3276.2, r5 A2806 l2805.length n2808 l2805, b10 g2819 a2820, b7 g2801 g2803 a2811 a2812 a2813 a2814, b9 g2817 g2801, b16 g3257 t3254.1 t3254.2.1 t3254.2.2.1 t3254.2.2.2.1 t3254.2.2.2.2.1 t3254.2.2.2.2.2.1 t3254.2.2.2.2.2.2.1] w3278) := ⟨HS.out.front 3 (by simp)⟩
    replace HS : Aside0 (Sep FF w [b7 g2801 g2803 a2811 a2812 a2813 a2814, b6 g2803 A2806 l2805.length n2808 t3276.2, r5 A2806 l2805.length n2808 l2805, b10 g2819 a2820, b9 g2817 g2801, b16 g3257 t3254.1 t3254.2.1 t3254.2.2.1 t3254.2.2.2.1 t3254.2.2.2.2.1 t3254.2.2.2.2.2.1 t3254.2.2.2.2.2.2.1] w3278) := ⟨HS.out.front 3 (by simp)⟩
    replace HS : Aside0 (Sep FF w [b9 g2817 g2801, b7 g2801 g2803 a2811 a2812 a2813 a2814, b6 g2803 A2806 l2805.length n2808 t3276.2, r5 A2806 l2805.length n2808 l2805, b10 g2819 a2820, b16 g3257 t3254.1 t3254.2.1 t3254.2.2.1 t3254.2.2.2.1 t3254.2.2.2.2.1 t3254.2.2.2.2.2.1 t3254.2.2.2.2.2.2.1] w3278) := ⟨HS.out.front 4 (by simp)⟩
    replace HS : Aside0 (Sep FF w [b16 g3257 t3254.1 t3254.2.1 t3254.2.2.1 t3254.2.2.2.1 t3254.2.2.2.2.1 t3254.2.2.2.2.2.1 t3254.2.2.2.2.2.2.1, b9 g2817 g2801, b7 g2801 g2803 a2811 a2812 a2813 a2814, b6 g2803 A2806 l2805.length n2808 t3276.2, r5 A2806 l2805.length n2808 l2805, b10 g2819 a2820] w3278) := ⟨HS.out.front 5 (by simp)⟩
    obtain ⟨t3279, HA3280, H⟩ := bind_some H
    refine (tint_Dye_1.calls t3254.1 t3254.2.1 t3254.2.2.1 t3254.2.2.2.1 t3254.2.2.2.2.1 t3254.2.2.2.2.2.1 t3254.2.2.2.2.2.2.1 t3276.1 l2805 t3276.2 a2811 a2812 a2813 a2814 a2820 g3257 g2817 g2801 g2803 A2806 l2805.length n2808 g2819 t3279 _ ⟨HGl0.out.pass HS.out⟩ ⟨HS.out.begin⟩ HA3280).mono ?_
    rintro e_ w3281 ⟨rfl, hS⟩
    replace HS : Aside0 (Sep FF w [b16 g3257 t3254.1 t3279.1 t3279.2.1 t3279.2.2.1 t3254.2.2.2.2.1 t3254.2.2.2.2.2.1 t3254.2.2.2.2.2.2.1, b9 g2817 g2801, b7 g2801 g2803 a2811 a2812 a2813 a2814, b6 g2803 A2806 l2805.length n2808 t3279.2.2.2.1, r5 A2806 l2805.length n2808 t3279.2.2.2.2, b10 g2819 a2820] w3281) := ⟨HS.out.call hS⟩
    clear hS
    have hc3282 : w3281.cell? ⟨g3257, 0, none⟩ = some (.int .i64 t3254.1) := blk_cellv (HS.out.at0) 0 rfl
    have hc3283 : w3281.cell? ⟨g3257, 1, none⟩ = some (.int .i64 t3279.1) := blk_cellv (HS.out.at0) 1 rfl
    have hc3284 : w3281.cell? ⟨g3257, 2, none⟩ = some (.int .i64 t3279.2.1) := blk_cellv (HS.out.at0) 2 rfl
    have hc3285 : w3281.cell? ⟨g3257, 3, none⟩ = some (.int .i64 t3279.2.2.1) := blk_cellv (HS.out.at0) 3 rfl
    have hc3286 : w3281.cell? ⟨g3257, 4, none⟩ = some (.int .i64 t3254.2.2.2.2.1) := blk_cellv (HS.out.at0) 4 rfl
    have hc3287 : w3281.cell? ⟨g3257, 5, none⟩ = some (.int .i64 t3254.2.2.2.2.2.1) := blk_cellv (HS.out.at0) 5 rfl
    have hc3288 : w3281.cell? ⟨g3257, 6, none⟩ = some (.int .i64 t3254.2.2.2.2.2.2.1) := blk_cellv (HS.out.at0) 6 rfl
    go_wp2_with fail
    clear hc3282 hc3283 hc3284 hc3285 hc3286 hc3287 hc3288
    obtain ⟨t3289, HA3290, H⟩ := bind_some H
    refine (tag_Pack.calls _ t3254.1 t3279.1 t3279.2.1 t3279.2.2.1 t3254.2.2.2.2.1 t3254.2.2.2.2.2.1 t3254.2.2.2.2.2.2.1 t3289 _ ⟨HGl0.out.pass (l := []) HS.out⟩ ⟨Sep.start _⟩ HA3290).mono ?_
    rintro e_ w3291 ⟨rfl, hS⟩
    replace HS : Aside0 (Sep FF w [b16 g3257 t3254.1 t3279.1 t3279.2.1 t3279.2.2.1 t3254.2.2.2.2.1 t3254.2.2.2.2.2.1 t3254.2.2.2.2.2.2.1, b9 g2817 g2801, b7 g2801 g2803 a2811 a2812 a2813 a2814, b6 g2803 A2806 l2805.length n2808 t3279.2.2.2.1, r5 A2806 l2805.length n2808 t3279.2.2.2.2, b10 g2819 a2820] w3291) := ⟨HS.out.call hS⟩
    clear hS
    by_cases c3292 : t3289.2 = 0
    · replace H := if_yes c3292 H
      have c3292b0 : (t3289.2 == 0) = true := beq_iff_eq.mpr c3292
      have c3292b1 : (t3289.2 != 0) = false := bne_eq_false_iff_eq.mpr c3292
      clear c3292
      replace HS : Aside0 (Sep FF w [b9 g2817 g2801, b7 g2801 g2803 a2811 a2812 a2813 a2814, b6 g2803 A2806 l2805.length n2808 t3279.2.2.2.1, r5 A2806 l2805.length n2808 t3279.2.2.2.2, b10 g2819 a2820] w3291) := ⟨HS.out.sub (.cons _ (.cons_cons _ (.cons_cons _ (.cons_cons _ (.cons_cons _ (.cons_cons _ .slnil))))))⟩
      go_wp2_with fail
      replace HS : Aside0 (Sep FF w [r5 A2806 l2805.length n2808 t3279.2.2.2.2, b9 g2817 g2801, b7 g2801 g2803 a2811 a2812 a2813 a2814, b6 g2803 A2806 l2805.length n2808 t3279.2.2.2.1, b10 g2819 a2820] w3291) := ⟨HS.out.front 3 (by simp)⟩
      replace HS : Aside0 (Sep FF w [b6 g2803 A2806 l2805.length n2808 t3279.2.2.2.1, r5 A2806 l2805.length n2808 t3279.2.2.2.2, b9 g2817 g2801, b7 g2801 g2803 a2811 a2812 a2813 a2814, b10 g2819 a2820] w3291) := ⟨HS.out.front 3 (by simp)⟩
      replace HS : Aside0 (Sep FF w [b7 g2801 g2803 a2811 a2812 a2813 a2814, b6 g2803 A2806 l2805.length n2808 t3279.2.2.2.1, r5 A2806 l2805.length n2808 t3279.2.2.2.2, b9 g2817 g2801, b10 g2819 a2820] w3291) := ⟨HS.out.front 3 (by simp)⟩
      obtain ⟨t3293, HA3294, H⟩ := bind_some H
      refine (ground_Ground_SetWord.calls t3279.2.2.2.2 t3279.2.2.2.1 a2811 a2812 a2813 a2814 (wrap64 (a2815 - 1)) 0 t3289.1 g2801 g2803 A2806 l2805.length n2808 t3293 _ ⟨HGl0.out.pass HS.out⟩ ⟨HS.out.begin⟩ HA3294).mono ?_
      rintro e_ w3295 ⟨rfl, hS⟩
      replace HS : Aside0 (Sep FF w [b7 g2801 g2803 a2811 a2812 a2813 a2814, b6 g2803 A2806 l2805.length n2808 t3293.2.1, r5 A2806 l2805.length n2808 t3293.2.2, b9 g2817 g2801, b10 g2819 a2820] w3295) := ⟨HS.out.call hS⟩
      clear hS
      go_wp2_with fail
      go_ret
      rw [← some_eq H]
      exact ⟨(by first | rfl | (simp [IntKind.wrap_u32]; done)), HS.out⟩
    · replace H := if_no c3292 H
      have c3292b0 : (t3289.2 == 0) = false := beq_eq_false_iff_ne.mpr c3292
      have c3292b1 : (t3289.2 != 0) = true := bne_iff_ne.mpr c3292
      clear c3292
      replace HS : Aside0 (Sep FF w [b9 g2817 g2801, b7 g2801 g2803 a2811 a2812 a2813 a2814, b6 g2803 A2806 l2805.length n2808 t3279.2.2.2.1, r5 A2806 l2805.length n2808 t3279.2.2.2.2, b10 g2819 a2820] w3291) := ⟨HS.out.sub (.cons _ (.cons_cons _ (.cons_cons _ (.cons_cons _ (.cons_cons _ (.cons_cons _ .slnil))))))⟩
      go_wp2_with fail
      go_ret
      rw [← some_eq H]
      exact ⟨(by first | rfl | (simp [IntKind.wrap_u32]; done)), ((((((HS.out).front 4 (by simp)).front 1 (by simp)).front 4 (by simp)).front 4 (by simp)).front 4 (by simp)).keep (l := [b7 g2801 g2803 a2811 a2812 a2813 a2814, b6 g2803 A2806 l2805.length n2808 t3279.2.2.2.1, r5 A2806 l2805.length n2808 t3279.2.2.2.2, b9 g2817 g2801, b10 g2819 a2820]) (rest := [])⟩
  · replace H := if_no c3275 H
    have c3275b0 : t3254.2.2.2.2.2.2.2.1 = false := by simpa using c3275
    have c3275b1 : (!t3254.2.2.2.2.2.2.2.1) = true := by rw [c3275b0]; rfl
    try rw [c3275b1]
    clear c3275
    go_wp2_with (first | ((with_reducible refine gate_dst (N := 7) rfl ?_); refine box_on ?hg (N := 7) ?hd (cs := #[.int .i64 0, .int .i64 0, .int .i64 0, .int .i64 0, .int .i64 0, .int .i64 0, .int .i64 0]) (t := 32) ?hr ?_; (case hd => rfl); (case hg => rfl); (case hr => first | (go_simp; done) | (go_simp; rfl)); intro g3257 hg w3258 hbox hb; replace HS : Aside0 (Sep FF w [b7 g2801 g2803 a2811 a2812 a2813 a2814, b6 g2803 A2806 l2805.length n2808 t3254.2.2.2.2.2.2.2.2, r5 A2806 l2805.length n2808 l2805, b9 g2817 g2801, b10 g2819 a2820, b16 g3257 0 0 0 0 0 0 0] w3258) := ⟨HS.out.box hg hbox hb⟩; clear hg hbox hb; have hc3260 : w3258.cell? ⟨g3257, 0, none⟩ = some (.int .i64 0) := blk_cellv (HS.out.at5) 0 rfl; have hz3261 : w3258.frozen? ⟨g3257, 0, none⟩ = false := blk_fz (HS.out.at5) 0; have hc3262 : w3258.cell? ⟨g3257, 1, none⟩ = some (.int .i64 0) := blk_cellv (HS.out.at5) 1 rfl; have hz3263 : w3258.frozen? ⟨g3257, 1, none⟩ = false := blk_fz (HS.out.at5) 1; have hc3264 : w3258.cell? ⟨g3257, 2, none⟩ = some (.int .i64 0) := blk_cellv (HS.out.at5) 2 rfl; have hz3265 : w3258.frozen? ⟨g3257, 2, none⟩ = false := blk_fz (HS.out.at5) 2; have hc3266 : w3258.cell? ⟨g3257, 3, none⟩ = some (.int .i64 0) := blk_cellv (HS.out.at5) 3 rfl; have hz3267 : w3258.frozen? ⟨g3257, 3, none⟩ = false := blk_fz (HS.out.at5) 3; have hc3268 : w3258.cell? ⟨g3257, 4, none⟩ = some (.int .i64 0) := blk_cellv (HS.out.at5) 4 rfl; have hz3269 : w3258.frozen? ⟨g3257, 4, none⟩ = false := blk_fz (HS.out.at5) 4; have hc3270 : w3258.cell? ⟨g3257, 5, none⟩ = some (.int .i64 0) := blk_cellv (HS.out.at5) 5 rfl; have hz3271 : w3258.frozen? ⟨g3257, 5, none⟩ = false := blk_fz (HS.out.at5) 5; have hc3272 : w3258.cell? ⟨g3257, 6, none⟩ = some (.int .i64 0) := blk_cellv (HS.out.at5) 6 rfl; have hz3273 : w3258.frozen? ⟨g3257, 6, none⟩ = false := blk_fz (HS.out.at5) 6) | ((with_reducible refine gate_store (t := 32) (p := 7) rfl ?_); refine store_event (w1 := (World.setCell (World.setCell (World.setCell (World.setCell (World.setCell (World.setCell (World.setCell w3258 ⟨g3257, 0, none⟩ (.int .i64 t3254.1)) ⟨g3257, 1, none⟩ (.int .i64 t3254.2.1)) ⟨g3257, 2, none⟩ (.int .i64 t3254.2.2.1)) ⟨g3257, 3, none⟩ (.int .i64 t3254.2.2.2.1)) ⟨g3257, 4, none⟩ (.int .i64 t3254.2.2.2.2.1)) ⟨g3257, 5, none⟩ (.int .i64 t3254.2.2.2.2.2.1)) ⟨g3257, 6, none⟩ (.int .i64 t3254.2.2.2.2.2.2.1))) rfl (t := 32) (p := 7) rfl rfl ?hr ?_; (case hr => first | (go_simp; done) | (go_simp; rfl)); intro w3274 hst; clear hc3260 hz3261 hc3262 hz3263 hc3264 hz3265 hc3266 hz3267 hc3268 hz3269 hc3270 hz3271 hc3272 hz3273; replace HS : Aside0 (Sep FF w [b7 g2801 g2803 a2811 a2812 a2813 a2814, b6 g2803 A2806 l2805.length n2808 t3254.2.2.2.2.2.2.2.2, r5 A2806 l2805.length n2808 l2805, b9 g2817 g2801, b10 g2819 a2820, b16 g3257 t3254.1 t3254.2.1 t3254.2.2.1 t3254.2.2.2.1 t3254.2.2.2.2.1 t3254.2.2.2.2.2.1 t3254.2.2.2.2.2.2.1] w3274) := ⟨by rw [hst]; exact HS.out.setAll (l1 := [b7 g2801 g2803 a2811 a2812 a2813 a2814, b6 g2803 A2806 l2805.length n2808 t3254.2.2.2.2.2.2.2.2, r5 A2806 l2805.length n2808 l2805, b9 g2817 g2801, b10 g2819 a2820]) (l2 := []) [.int .i64 t3254.1, .int .i64 t3254.2.1, .int .i64 t3254.2.2.1, .int .i64 t3254.2.2.2.1, .int .i64 t3254.2.2.2.2.1, .int .i64 t3254.2.2.2.2.2.1, .int .i64 t3254.2.2.2.2.2.2.1] rfl⟩; clear hst; replace HS : Aside0 (Sep FF w [b7 g2801 g2803 a2811 a2812 a2813 a2814, b6 g2803 A2806 l2805.length n2808 t3254.2.2.2.2.2.2.2.2, r5 A2806 l2805.length n2808 l2805, b9 g2817 g2801, b10 g2819 a2820] w3274) := ⟨HS.out.sub (.cons_cons _ (.cons_cons _ (.cons_cons _ (.cons_cons _ (.cons_cons _ (.cons _ .slnil))))))⟩))
    go_ret
    rw [← some_eq H]
    exact ⟨(by first | rfl | (simp [IntKind.wrap_u32]; done)), HS.out⟩

set_option maxHeartbeats 30000000 in
set_option maxRecDepth 100000 in
theorem tint_Dye.calls (k : Nat) (l2781 : List Int) (a2786 : Int) (a2787 : Int) (a2788 : Int) (a2789 : Int) (a2790 : Int) (a2791 : Int) (g2777 : Nat) (g2779 : Nat) (A2782 : Option Addr) (m2783 : Nat) (n2784 : Nat) (r : Bool × Int × List Int) (w : World)  (HGl0 : Aside0 (Gl 0 #[.int .i64 0, .int .i64 0, .int .i64 0, .int .i64 0, .int .i64 0] (fps [b7 g2777 g2779 a2787 a2788 a2789 a2790, b6 g2779 A2782 m2783 n2784 a2786, r5 A2782 m2783 n2784 l2781]) w)) (HS : Aside0 (Sep (fps [b7 g2777 g2779 a2787 a2788 a2789 a2790, b6 g2779 A2782 m2783 n2784 a2786, r5 A2782 m2783 n2784 l2781]) w [b7 g2777 g2779 a2787 a2788 a2789 a2790, b6 g2779 A2782 m2783 n2784 a2786, r5 A2782 m2783 n2784 l2781] w)) (H : Aside0 (tint_Dye.f k l2781 a2786 a2787 a2788 a2789 a2790 a2791 = some r)) :
    Calls Tryd.prog 49 #[.pointer (some ⟨g2777, 0, none⟩), .int .i64 a2791] w fun e w' => e = .returned (.bool r.1) ∧ Sep (fps [b7 g2777 g2779 a2787 a2788 a2789 a2790, b6 g2779 A2782 m2783 n2784 a2786, r5 A2782 m2783 n2784 l2781]) w [b7 g2777 g2779 a2787 a2788 a2789 a2790, b6 g2779 A2782 m2783 n2784 r.2.1, r5 A2782 m2783 n2784 r.2.2] w' := by
  generalize (fps [b7 g2777 g2779 a2787 a2788 a2789 a2790, b6 g2779 A2782 m2783 n2784 a2786, r5 A2782 m2783 n2784 l2781]) = FF at HS HGl0 ⊢
  obtain rfl := (row_len (HS.out.at2)).symm
  unfold tint_Dye.f at H
  go_enter Tryd.func49, Tryd.ntmps49
  go_wp2_with (first | ((with_reducible refine gate_dst (N := 2) rfl ?_); refine box_on ?hg (N := 2) ?hd (cs := #[.pointer (some ⟨g2777, 0, none⟩)]) (t := 25) ?hr ?_; (case hd => rfl); (case hg => rfl); (case hr => first | (go_simp; done) | (go_simp; rfl)); intro g3299 hg w3300 hbox hb; replace HS : Aside0 (Sep FF w [b7 g2777 g2779 a2787 a2788 a2789 a2790, b6 g2779 A2782 l2781.length n2784 a2786, r5 A2782 l2781.length n2784 l2781, b9 g3299 g2777] w3300) := ⟨HS.out.box hg hbox hb⟩; clear hg hbox hb) | ((with_reducible refine gate_dst (N := 3) rfl ?_); refine box_on ?hg (N := 3) ?hd (cs := #[.int .i64 a2791]) (t := 3) ?hr ?_; (case hd => rfl); (case hg => rfl); (case hr => first | (go_simp; done) | (go_simp; rfl)); intro g3302 hg w3303 hbox hb; replace HS : Aside0 (Sep FF w [b7 g2777 g2779 a2787 a2788 a2789 a2790, b6 g2779 A2782 l2781.length n2784 a2786, r5 A2782 l2781.length n2784 l2781, b9 g3299 g2777, b10 g3302 a2791] w3303) := ⟨HS.out.box hg hbox hb⟩; clear hg hbox hb; have hc3305 : w3303.cell? ⟨g3299, 0, none⟩ = some (.pointer (some ⟨g2777, 0, none⟩)) := blk_cellv (HS.out.at3) 0 rfl; have hc3306 : w3303.cell? ⟨g3302, 0, none⟩ = some (.int .i64 a2791) := blk_cellv (HS.out.at4) 0 rfl))
  clear hc3305 hc3306
  obtain ⟨t3307, HA3308, H⟩ := bind_some H
  refine (tint_change_F108.calls _ l2781 a2786 a2787 a2788 a2789 a2790 a2791 a2791 g2777 g2779 A2782 l2781.length n2784 g3299 g3302 t3307 _ ⟨HGl0.out.pass HS.out⟩ ⟨HS.out.begin⟩ HA3308).mono ?_
  rintro e_ w3309 ⟨rfl, hS⟩
  replace HS : Aside0 (Sep FF w [b7 g2777 g2779 a2787 a2788 a2789 a2790, b6 g2779 A2782 l2781.length n2784 t3307.2.1, r5 A2782 l2781.length n2784 t3307.2.2, b9 g3299 g2777, b10 g3302 a2791] w3309) := ⟨HS.out.call hS⟩
  clear hS
  replace HS : Aside0 (Sep FF w [b7 g2777 g2779 a2787 a2788 a2789 a2790, b6 g2779 A2782 l2781.length n2784 t3307.2.1, r5 A2782 l2781.length n2784 t3307.2.2] w3309) := ⟨HS.out.sub (.cons_cons _ (.cons_cons _ (.cons_cons _ (.cons _ (.cons _ .slnil)))))⟩
  go_wp2_with fail
  go_ret
  rw [← some_eq H]
  exact ⟨(by first | rfl | (simp [IntKind.wrap_u32]; done)), HS.out⟩

set_option maxHeartbeats 30000000 in
set_option maxRecDepth 100000 in
theorem tint_Deepen_1.calls (a3386 : Int) (a3387 : Int) (a3388 : Int) (a3389 : Int) (a3390 : Int) (a3391 : Int) (a3392 : Int) (a3393 : Int) (l3401 : List Int) (a3406 : Int) (a3407 : Int) (a3408 : Int) (a3409 : Int) (a3410 : Int) (a3413 : Int) (g3385 : Nat) (g3395 : Nat) (g3397 : Nat) (g3399 : Nat) (A3402 : Option Addr) (m3403 : Nat) (n3404 : Nat) (g3412 : Nat) (r : Int × Int × List Int) (w : World)  (HGl0 : Aside0 (Gl 0 #[.int .i64 0, .int .i64 0, .int .i64 0, .int .i64 0, .int .i64 0] (fps [b16 g3385 a3386 a3387 a3388 a3389 a3390 a3391 a3392, b9 g3395 g3397, b7 g3397 g3399 a3407 a3408 a3409 a3410, b6 g3399 A3402 m3403 n3404 a3406, r5 A3402 m3403 n3404 l3401, b10 g3412 a3413]) w)) (HS : Aside0 (Sep (fps [b16 g3385 a3386 a3387 a3388 a3389 a3390 a3391 a3392, b9 g3395 g3397, b7 g3397 g3399 a3407 a3408 a3409 a3410, b6 g3399 A3402 m3403 n3404 a3406, r5 A3402 m3403 n3404 l3401, b10 g3412 a3413]) w [b16 g3385 a3386 a3387 a3388 a3389 a3390 a3391 a3392, b9 g3395 g3397, b7 g3397 g3399 a3407 a3408 a3409 a3410, b6 g3399 A3402 m3403 n3404 a3406, r5 A3402 m3403 n3404 l3401, b10 g3412 a3413] w)) (H : Aside0 (tint_Deepen_1.f a3386 a3387 a3388 a3389 a3390 a3391 a3392 a3393 l3401 a3406 a3407 a3408 a3409 a3410 a3413 = some r)) :
    Calls Tryd.prog 109 #[.pointer (some ⟨g3385, 0, none⟩), .int .i64 a3393, .pointer (some ⟨g3395, 0, none⟩), .pointer (some ⟨g3412, 0, none⟩)] w fun e w' => e = .returned (.tuple #[]) ∧ Sep (fps [b16 g3385 a3386 a3387 a3388 a3389 a3390 a3391 a3392, b9 g3395 g3397, b7 g3397 g3399 a3407 a3408 a3409 a3410, b6 g3399 A3402 m3403 n3404 a3406, r5 A3402 m3403 n3404 l3401, b10 g3412 a3413]) w [b16 g3385 a3386 a3387 a3388 r.1 a3390 a3391 a3392, b9 g3395 g3397, b7 g3397 g3399 a3407 a3408 a3409 a3410, b6 g3399 A3402 m3403 n3404 r.2.1, r5 A3402 m3403 n3404 r.2.2, b10 g3412 a3413] w' := by
  generalize (fps [b16 g3385 a3386 a3387 a3388 a3389 a3390 a3391 a3392, b9 g3395 g3397, b7 g3397 g3399 a3407 a3408 a3409 a3410, b6 g3399 A3402 m3403 n3404 a3406, r5 A3402 m3403 n3404 l3401, b10 g3412 a3413]) = FF at HS HGl0 ⊢
  obtain rfl := (row_len (HS.out.at4)).symm
  unfold tint_Deepen_1.f at H
  go_enter Tryd.func109, Tryd.ntmps109
  by_cases c3430 : a3389 = a3393
  · replace H := if_yes c3430 H
    have c3430b0 : (a3389 == a3393) = true := beq_iff_eq.mpr c3430
    have c3430b1 : (a3389 != a3393) = false := bne_eq_false_iff_eq.mpr c3430
    clear c3430
    have hc3429 : w.cell? ⟨g3385, 3, none⟩ = some (.int .i64 a3389) := blk_cellv (HS.out.at0) 3 rfl
    have hc3431 : w.cell? ⟨g3395, 0, none⟩ = some (.pointer (some ⟨g3397, 0, none⟩)) := blk_cellv (HS.out.at1) 0 rfl
    have hc3432 : w.cell? ⟨g3412, 0, none⟩ = some (.int .i64 a3413) := blk_cellv (HS.out.at5) 0 rfl
    go_wp2_with fail
    clear hc3429 hc3431 hc3432
    replace HS : Aside0 (Sep FF w [r5 A3402 l3401.length n3404 l3401, b16 g3385 a3386 a3387 a3388 a3389 a3390 a3391 a3392, b9 g3395 g3397, b7 g3397 g3399 a3407 a3408 a3409 a3410, b6 g3399 A3402 l3401.length n3404 a3406, b10 g3412 a3413] w) := ⟨HS.out.front 4 (by simp)⟩
    replace HS : Aside0 (Sep FF w [b6 g3399 A3402 l3401.length n3404 a3406, r5 A3402 l3401.length n3404 l3401, b16 g3385 a3386 a3387 a3388 a3389 a3390 a3391 a3392, b9 g3395 g3397, b7 g3397 g3399 a3407 a3408 a3409 a3410, b10 g3412 a3413] w) := ⟨HS.out.front 4 (by simp)⟩
    replace HS : Aside0 (Sep FF w [b7 g3397 g3399 a3407 a3408 a3409 a3410, b6 g3399 A3402 l3401.length n3404 a3406, r5 A3402 l3401.length n3404 l3401, b16 g3385 a3386 a3387 a3388 a3389 a3390 a3391 a3392, b9 g3395 g3397, b10 g3412 a3413] w) := ⟨HS.out.front 4 (by simp)⟩
    obtain ⟨t3433, HA3434, H⟩ := bind_some H
    refine (ground_Ground_Word.calls l3401 a3406 a3407 a3408 a3409 a3410 (wrap64 (a3413 - 1)) 4 g3397 g3399 A3402 l3401.length n3404 t3433 _ ⟨HGl0.out.pass HS.out⟩ ⟨HS.out.begin⟩ HA3434).mono ?_
    rintro e_ w3435 ⟨rfl, hS⟩
    replace HS : Aside0 (Sep FF w [b7 g3397 g3399 a3407 a3408 a3409 a3410, b6 g3399 A3402 l3401.length n3404 t3433.2, r5 A3402 l3401.length n3404 l3401, b16 g3385 a3386 a3387 a3388 a3389 a3390 a3391 a3392, b9 g3395 g3397, b10 g3412 a3413] w3435) := ⟨HS.out.call hS⟩
    clear hS
    have hc3436 : w3435.cell? ⟨g3385, 3, none⟩ = some (.int .i64 a3389) := blk_cellv (HS.out.at3) 3 rfl
    have hz3437 : w3435.frozen? ⟨g3385, 3, none⟩ = false := blk_fz (HS.out.at3) 3
    go_wp2_with (first | ((with_reducible refine gate_store (t := 3) (p := 20) rfl ?_); refine store_event (w1 := (World.setCell w3435 ⟨g3385, 3, none⟩ (.int .i64 a3393))) rfl (t := 3) (p := 20) rfl rfl ?hr ?_; (case hr => first | (go_simp; done) | (go_simp; rfl)); intro w3438 hst; clear hc3436 hz3437; have hq0 : Sep FF w [b7 g3397 g3399 a3407 a3408 a3409 a3410, b6 g3399 A3402 l3401.length n3404 t3433.2, r5 A3402 l3401.length n3404 l3401, b16 g3385 a3386 a3387 a3388 a3393 a3390 a3391 a3392, b9 g3395 g3397, b10 g3412 a3413] (World.setCell w3435 ⟨g3385, 3, none⟩ (.int .i64 a3393)) := (HS.out).set1 (l1 := [b7 g3397 g3399 a3407 a3408 a3409 a3410, b6 g3399 A3402 l3401.length n3404 t3433.2, r5 A3402 l3401.length n3404 l3401]) (l2 := [b9 g3395 g3397, b10 g3412 a3413]) 3 (.int .i64 a3393); replace HS : Aside0 (Sep FF w [b7 g3397 g3399 a3407 a3408 a3409 a3410, b6 g3399 A3402 l3401.length n3404 t3433.2, r5 A3402 l3401.length n3404 l3401, b16 g3385 a3386 a3387 a3388 a3393 a3390 a3391 a3392, b9 g3395 g3397, b10 g3412 a3413] w3438) := ⟨by rw [hst]; exact hq0⟩; clear hq0; clear hst; have hc3439 : w3438.cell? ⟨g3395, 0, none⟩ = some (.pointer (some ⟨g3397, 0, none⟩)) := blk_cellv (HS.out.at4) 0 rfl; have hc3440 : w3438.cell? ⟨g3412, 0, none⟩ = some (.int .i64 a3413) := blk_cellv (HS.out.at5) 0 rfl))
    clear hc3439 hc3440
    obtain ⟨t3441, HA3442, H⟩ := bind_some H
    refine (ground_Ground_SetWord.calls l3401 t3433.2 a3407 a3408 a3409 a3410 (wrap64 (a3413 - 1)) 4 ((t3433.1 + 1) % 4294967296) g3397 g3399 A3402 l3401.length n3404 t3441 _ ⟨HGl0.out.pass HS.out⟩ ⟨HS.out.begin⟩ HA3442).mono ?_
    rintro e_ w3443 ⟨rfl, hS⟩
    replace HS : Aside0 (Sep FF w [b7 g3397 g3399 a3407 a3408 a3409 a3410, b6 g3399 A3402 l3401.length n3404 t3441.2.1, r5 A3402 l3401.length n3404 t3441.2.2, b16 g3385 a3386 a3387 a3388 a3393 a3390 a3391 a3392, b9 g3395 g3397, b10 g3412 a3413] w3443) := ⟨HS.out.call hS⟩
    clear hS
    go_wp2_with fail
    first | go_end0 | refine bodyPost_ret (results_none rfl _ _ _) rfl ?_
    rw [← some_eq H]
    exact ⟨rfl, (((((((HS.out).front 5 (by simp)).front 3 (by simp)).front 3 (by simp)).front 3 (by simp)).front 5 (by simp)).front 5 (by simp)).keep (l := [b16 g3385 a3386 a3387 a3388 a3393 a3390 a3391 a3392, b9 g3395 g3397, b7 g3397 g3399 a3407 a3408 a3409 a3410, b6 g3399 A3402 l3401.length n3404 t3441.2.1, r5 A3402 l3401.length n3404 t3441.2.2, b10 g3412 a3413]) (rest := [])⟩
  · replace H := if_no c3430 H
    have c3430b0 : (a3389 == a3393) = false := beq_eq_false_iff_ne.mpr c3430
    have c3430b1 : (a3389 != a3393) = true := bne_iff_ne.mpr c3430
    clear c3430
    have hc3429 : w.cell? ⟨g3385, 3, none⟩ = some (.int .i64 a3389) := blk_cellv (HS.out.at0) 3 rfl
    have hz3444 : w.frozen? ⟨g3385, 3, none⟩ = false := blk_fz (HS.out.at0) 3
    go_wp2_with (first | ((with_reducible refine gate_store (t := 3) (p := 20) rfl ?_); refine store_event (w1 := (World.setCell w ⟨g3385, 3, none⟩ (.int .i64 a3393))) rfl (t := 3) (p := 20) rfl rfl ?hr ?_; (case hr => first | (go_simp; done) | (go_simp; rfl)); intro w3445 hst; clear hc3429 hz3444; have hq0 : Sep FF w [b16 g3385 a3386 a3387 a3388 a3393 a3390 a3391 a3392, b9 g3395 g3397, b7 g3397 g3399 a3407 a3408 a3409 a3410, b6 g3399 A3402 l3401.length n3404 a3406, r5 A3402 l3401.length n3404 l3401, b10 g3412 a3413] (World.setCell w ⟨g3385, 3, none⟩ (.int .i64 a3393)) := (HS.out).set1 (l1 := []) (l2 := [b9 g3395 g3397, b7 g3397 g3399 a3407 a3408 a3409 a3410, b6 g3399 A3402 l3401.length n3404 a3406, r5 A3402 l3401.length n3404 l3401, b10 g3412 a3413]) 3 (.int .i64 a3393); replace HS : Aside0 (Sep FF w [b16 g3385 a3386 a3387 a3388 a3393 a3390 a3391 a3392, b9 g3395 g3397, b7 g3397 g3399 a3407 a3408 a3409 a3410, b6 g3399 A3402 l3401.length n3404 a3406, r5 A3402 l3401.length n3404 l3401, b10 g3412 a3413] w3445) := ⟨by rw [hst]; exact hq0⟩; clear hq0; clear hst; have hc3446 : w3445.cell? ⟨g3395, 0, none⟩ = some (.pointer (some ⟨g3397, 0, none⟩)) := blk_cellv (HS.out.at1) 0 rfl; have hc3447 : w3445.cell? ⟨g3412, 0, none⟩ = some (.int .i64 a3413) := blk_cellv (HS.out.at5) 0 rfl))
    clear hc3446 hc3447
    replace HS : Aside0 (Sep FF w [r5 A3402 l3401.length n3404 l3401, b16 g3385 a3386 a3387 a3388 a3393 a3390 a3391 a3392, b9 g3395 g3397, b7 g3397 g3399 a3407 a3408 a3409 a3410, b6 g3399 A3402 l3401.length n3404 a3406, b10 g3412 a3413] w3445) := ⟨HS.out.front 4 (by simp)⟩
    replace HS : Aside0 (Sep FF w [b6 g3399 A3402 l3401.length n3404 a3406, r5 A3402 l3401.length n3404 l3401, b16 g3385 a3386 a3387 a3388 a3393 a3390 a3391 a3392, b9 g3395 g3397, b7 g3397 g3399 a3407 a3408 a3409 a3410, b10 g3412 a3413] w3445) := ⟨HS.out.front 4 (by simp)⟩
    replace HS : Aside0 (Sep FF w [b7 g3397 g3399 a3407 a3408 a3409 a3410, b6 g3399 A3402 l3401.length n3404 a3406, r5 A3402 l3401.length n3404 l3401, b16 g3385 a3386 a3387 a3388 a3393 a3390 a3391 a3392, b9 g3395 g3397, b10 g3412 a3413] w3445) := ⟨HS.out.front 4 (by simp)⟩
    obtain ⟨t3441, HA3448, H⟩ := bind_some H
    refine (ground_Ground_SetWord.calls l3401 a3406 a3407 a3408 a3409 a3410 (wrap64 (a3413 - 1)) 4 1 g3397 g3399 A3402 l3401.length n3404 t3441 _ ⟨HGl0.out.pass HS.out⟩ ⟨HS.out.begin⟩ HA3448).mono ?_
    rintro e_ w3449 ⟨rfl, hS⟩
    replace HS : Aside0 (Sep FF w [b7 g3397 g3399 a3407 a3408 a3409 a3410, b6 g3399 A3402 l3401.length n3404 t3441.2.1, r5 A3402 l3401.length n3404 t3441.2.2, b16 g3385 a3386 a3387 a3388 a3393 a3390 a3391 a3392, b9 g3395 g3397, b10 g3412 a3413] w3449) := ⟨HS.out.call hS⟩
    clear hS
    go_wp2_with fail
    first | go_end0 | refine bodyPost_ret (results_none rfl _ _ _) rfl ?_
    rw [← some_eq H]
    exact ⟨rfl, (((((((HS.out).front 5 (by simp)).front 3 (by simp)).front 3 (by simp)).front 3 (by simp)).front 5 (by simp)).front 5 (by simp)).keep (l := [b16 g3385 a3386 a3387 a3388 a3393 a3390 a3391 a3392, b9 g3395 g3397, b7 g3397 g3399 a3407 a3408 a3409 a3410, b6 g3399 A3402 l3401.length n3404 t3441.2.1, r5 A3402 l3401.length n3404 t3441.2.2, b10 g3412 a3413]) (rest := [])⟩

set_option maxHeartbeats 30000000 in
set_option maxRecDepth 100000 in
theorem tint_change_F109.calls (k : Nat) (l3343 : List Int) (a3348 : Int) (a3349 : Int) (a3350 : Int) (a3351 : Int) (a3352 : Int) (a3353 : Int) (a3358 : Int) (g3339 : Nat) (g3341 : Nat) (A3344 : Option Addr) (m3345 : Nat) (n3346 : Nat) (g3355 : Nat) (g3357 : Nat) (r : Bool × Int × List Int) (w : World)  (HGl0 : Aside0 (Gl 0 #[.int .i64 0, .int .i64 0, .int .i64 0, .int .i64 0, .int .i64 0] (fps [b7 g3339 g3341 a3349 a3350 a3351 a3352, b6 g3341 A3344 m3345 n3346 a3348, r5 A3344 m3345 n3346 l3343, b9 g3355 g3339, b10 g3357 a3358]) w)) (HS : Aside0 (Sep (fps [b7 g3339 g3341 a3349 a3350 a3351 a3352, b6 g3341 A3344 m3345 n3346 a3348, r5 A3344 m3345 n3346 l3343, b9 g3355 g3339, b10 g3357 a3358]) w [b7 g3339 g3341 a3349 a3350 a3351 a3352, b6 g3341 A3344 m3345 n3346 a3348, r5 A3344 m3345 n3346 l3343, b9 g3355 g3339, b10 g3357 a3358] w)) (H : Aside0 (tint_change_F109.f k l3343 a3348 a3349 a3350 a3351 a3352 a3353 a3358 = some r)) :
    Calls Tryd.prog 107 #[.pointer (some ⟨g3339, 0, none⟩), .int .i64 a3353, .func (.func 109) #[] #[.pointer (some ⟨g3355, 0, none⟩), .pointer (some ⟨g3357, 0, none⟩)]] w fun e w' => e = .returned (.bool r.1) ∧ Sep (fps [b7 g3339 g3341 a3349 a3350 a3351 a3352, b6 g3341 A3344 m3345 n3346 a3348, r5 A3344 m3345 n3346 l3343, b9 g3355 g3339, b10 g3357 a3358]) w [b7 g3339 g3341 a3349 a3350 a3351 a3352, b6 g3341 A3344 m3345 n3346 r.2.1, r5 A3344 m3345 n3346 r.2.2, b9 g3355 g3339, b10 g3357 a3358] w' := by
  generalize (fps [b7 g3339 g3341 a3349 a3350 a3351 a3352, b6 g3341 A3344 m3345 n3346 a3348, r5 A3344 m3345 n3346 l3343, b9 g3355 g3339, b10 g3357 a3358]) = FF at HS HGl0 ⊢
  obtain rfl := (row_len (HS.out.at2)).symm
  unfold tint_change_F109.f at H
  go_enter Tryd.func107, Tryd.ntmps107
  go_wp2_with fail
  obtain ⟨t3467, HA3468, H⟩ := bind_some H
  refine (tint_of.calls l3343 a3348 a3349 a3350 a3351 a3352 a3353 g3339 g3341 A3344 l3343.length n3346 t3467 _ ⟨HGl0.out.pass HS.out⟩ ⟨HS.out.begin⟩ HA3468).mono ?_
  rintro e_ w3469 ⟨rfl, hS⟩
  replace HS : Aside0 (Sep FF w [b7 g3339 g3341 a3349 a3350 a3351 a3352, b6 g3341 A3344 l3343.length n3346 t3467.2.2.2.2.2.2.2.2, r5 A3344 l3343.length n3346 l3343, b9 g3355 g3339, b10 g3357 a3358] w3469) := ⟨HS.out.call hS⟩
  clear hS
  by_cases c3488 : t3467.2.2.2.2.2.2.2.1 = true
  · replace H := if_yes c3488 H
    have c3488b0 : t3467.2.2.2.2.2.2.2.1 = true := c3488
    have c3488b1 : (!t3467.2.2.2.2.2.2.2.1) = false := by rw [c3488b0]; rfl
    try rw [c3488b1]
    clear c3488
    go_wp2_with (first | ((with_reducible refine gate_dst (N := 7) rfl ?_); refine box_on ?hg (N := 7) ?hd (cs := #[.int .i64 0, .int .i64 0, .int .i64 0, .int .i64 0, .int .i64 0, .int .i64 0, .int .i64 0]) (t := 32) ?hr ?_; (case hd => rfl); (case hg => rfl); (case hr => first | (go_simp; done) | (go_simp; rfl)); intro g3470 hg w3471 hbox hb; replace HS : Aside0 (Sep FF w [b7 g3339 g3341 a3349 a3350 a3351 a3352, b6 g3341 A3344 l3343.length n3346 t3467.2.2.2.2.2.2.2.2, r5 A3344 l3343.length n3346 l3343, b9 g3355 g3339, b10 g3357 a3358, b16 g3470 0 0 0 0 0 0 0] w3471) := ⟨HS.out.box hg hbox hb⟩; clear hg hbox hb; have hc3473 : w3471.cell? ⟨g3470, 0, none⟩ = some (.int .i64 0) := blk_cellv (HS.out.at5) 0 rfl; have hz3474 : w3471.frozen? ⟨g3470, 0, none⟩ = false := blk_fz (HS.out.at5) 0; have hc3475 : w3471.cell? ⟨g3470, 1, none⟩ = some (.int .i64 0) := blk_cellv (HS.out.at5) 1 rfl; have hz3476 : w3471.frozen? ⟨g3470, 1, none⟩ = false := blk_fz (HS.out.at5) 1; have hc3477 : w3471.cell? ⟨g3470, 2, none⟩ = some (.int .i64 0) := blk_cellv (HS.out.at5) 2 rfl; have hz3478 : w3471.frozen? ⟨g3470, 2, none⟩ = false := blk_fz (HS.out.at5) 2; have hc3479 : w3471.cell? ⟨g3470, 3, none⟩ = some (.int .i64 0) := blk_cellv (HS.out.at5) 3 rfl; have hz3480 : w3471.frozen? ⟨g3470, 3, none⟩ = false := blk_fz (HS.out.at5) 3; have hc3481 : w3471.cell? ⟨g3470, 4, none⟩ = some (.int .i64 0) := blk_cellv (HS.out.at5) 4 rfl; have hz3482 : w3471.frozen? ⟨g3470, 4, none⟩ = false := blk_fz (HS.out.at5) 4; have hc3483 : w3471.cell? ⟨g3470, 5, none⟩ = some (.int .i64 0) := blk_cellv (HS.out.at5) 5 rfl; have hz3484 : w3471.frozen? ⟨g3470, 5, none⟩ = false := blk_fz (HS.out.at5) 5; have hc3485 : w3471.cell? ⟨g3470, 6, none⟩ = some (.int .i64 0) := blk_cellv (HS.out.at5) 6 rfl; have hz3486 : w3471.frozen? ⟨g3470, 6, none⟩ = false := blk_fz (HS.out.at5) 6) | ((with_reducible refine gate_store (t := 32) (p := 7) rfl ?_); refine store_event (w1 := (World.setCell (World.setCell (World.setCell (World.setCell (World.setCell (World.setCell (World.setCell w3471 ⟨g3470, 0, none⟩ (.int .i64 t3467.1)) ⟨g3470, 1, none⟩ (.int .i64 t3467.2.1)) ⟨g3470, 2, none⟩ (.int .i64 t3467.2.2.1)) ⟨g3470, 3, none⟩ (.int .i64 t3467.2.2.2.1)) ⟨g3470, 4, none⟩ (.int .i64 t3467.2.2.2.2.1)) ⟨g3470, 5, none⟩ (.int .i64 t3467.2.2.2.2.2.1)) ⟨g3470, 6, none⟩ (.int .i64 t3467.2.2.2.2.2.2.1))) rfl (t := 32) (p := 7) rfl rfl ?hr ?_; (case hr => first | (go_simp; done) | (go_simp; rfl)); intro w3487 hst; clear hc3473 hz3474 hc3475 hz3476 hc3477 hz3478 hc3479 hz3480 hc3481 hz3482 hc3483 hz3484 hc3485 hz3486; replace HS : Aside0 (Sep FF w [b7 g3339 g3341 a3349 a3350 a3351 a3352, b6 g3341 A3344 l3343.length n3346 t3467.2.2.2.2.2.2.2.2, r5 A3344 l3343.length n3346 l3343, b9 g3355 g3339, b10 g3357 a3358, b16 g3470 t3467.1 t3467.2.1 t3467.2.2.1 t3467.2.2.2.1 t3467.2.2.2.2.1 t3467.2.2.2.2.2.1 t3467.2.2.2.2.2.2.1] w3487) := ⟨by rw [hst]; exact HS.out.setAll (l1 := [b7 g3339 g3341 a3349 a3350 a3351 a3352, b6 g3341 A3344 l3343.length n3346 t3467.2.2.2.2.2.2.2.2, r5 A3344 l3343.length n3346 l3343, b9 g3355 g3339, b10 g3357 a3358]) (l2 := []) [.int .i64 t3467.1, .int .i64 t3467.2.1, .int .i64 t3467.2.2.1, .int .i64 t3467.2.2.2.1, .int .i64 t3467.2.2.2.2.1, .int .i64 t3467.2.2.2.2.2.1, .int .i64 t3467.2.2.2.2.2.2.1] rfl⟩; clear hst))
    obtain ⟨t3489, HA3490, H⟩ := bind_some H
    refine (tint_Parity.calls l3343 t3467.2.2.2.2.2.2.2.2 a3349 a3350 a3351 a3352 g3339 g3341 A3344 l3343.length n3346 t3489 _ ⟨HGl0.out.pass HS.out⟩ ⟨HS.out.begin⟩ HA3490).mono ?_
    rintro e_ w3491 ⟨rfl, hS⟩
    replace HS : Aside0 (Sep FF w [b7 g3339 g3341 a3349 a3350 a3351 a3352, b6 g3341 A3344 l3343.length n3346 t3489.2, r5 A3344 l3343.length n3346 l3343, b9 g3355 g3339, b10 g3357 a3358, b16 g3470 t3467.1 t3467.2.1 t3467.2.2.1 t3467.2.2.2.1 t3467.2.2.2.2.1 t3467.2.2.2.2.2.1 t3467.2.2.2.2.2.2.1] w3491) := ⟨HS.out.call hS⟩
    clear hS
    go_wp2_with fail
    replace HS : Aside0 (Sep FF w [b10 g3357 a3358, b7 g3339 g3341 a3349 a3350 a3351 a3352, b6 g3341 A3344 l3343.length n3346 t3489.2, r5 A3344 l3343.length n3346 l3343, b9 g3355 g3339, b16 g3470 t3467.1 t3467.2.1 t3467.2.2.1 t3467.2.2.2.1 t3467.2.2.2.2.1 t3467.2.2.2.2.2.1 t3467.2.2.2.2.2.2.1] w3491) := ⟨HS.out.front 4 (by simp)⟩
    replace HS : Aside0 (Sep FF w [r5 A3344 l3343.length n3346 l3343, b10 g3357 a3358, b7 g3339 g3341 a3349 a3350 a3351 a3352, b6 g3341 A3344 l3343.length n3346 t3489.2, b9 g3355 g3339, b16 g3470 t3467.1 t3467.2.1 t3467.2.2.1 t3467.2.2.2.1 t3467.2.2.2.2.1 t3467.2.2.2.2.2.1 t3467.2.2.2.2.2.2.1] w3491) := ⟨HS.out.front 3 (by simp)⟩
    replace HS : Aside0 (Sep FF w [b6 g3341 A3344 l3343.length n3346 t3489.2, r5 A3344 l3343.length n3346 l3343, b10 g3357 a3358, b7 g3339 g3341 a3349 a3350 a3351 a3352, b9 g3355 g3339, b16 g3470 t3467.1 t3467.2.1 t3467.2.2.1 t3467.2.2.2.1 t3467.2.2.2.2.1 t3467.2.2.2.2.2.1 t3467.2.2.2.2.2.2.1] w3491) := ⟨HS.out.front 3 (by simp)⟩
    replace HS : Aside0 (Sep FF w [b7 g3339 g3341 a3349 a3350 a3351 a3352, b6 g3341 A3344 l3343.length n3346 t3489.2, r5 A3344 l3343.length n3346 l3343, b10 g3357 a3358, b9 g3355 g3339, b16 g3470 t3467.1 t3467.2.1 t3467.2.2.1 t3467.2.2.2.1 t3467.2.2.2.2.1 t3467.2.2.2.2.2.1 t3467.2.2.2.2.2.2.1] w3491) := ⟨HS.out.front 3 (by simp)⟩
    replace HS : Aside0 (Sep FF w [b9 g3355 g3339, b7 g3339 g3341 a3349 a3350 a3351 a3352, b6 g3341 A3344 l3343.length n3346 t3489.2, r5 A3344 l3343.length n3346 l3343, b10 g3357 a3358, b16 g3470 t3467.1 t3467.2.1 t3467.2.2.1 t3467.2.2.2.1 t3467.2.2.2.2.1 t3467.2.2.2.2.2.1 t3467.2.2.2.2.2.2.1] w3491) := ⟨HS.out.front 4 (by simp)⟩
    replace HS : Aside0 (Sep FF w [b16 g3470 t3467.1 t3467.2.1 t3467.2.2.1 t3467.2.2.2.1 t3467.2.2.2.2.1 t3467.2.2.2.2.2.1 t3467.2.2.2.2.2.2.1, b9 g3355 g3339, b7 g3339 g3341 a3349 a3350 a3351 a3352, b6 g3341 A3344 l3343.length n3346 t3489.2, r5 A3344 l3343.length n3346 l3343, b10 g3357 a3358] w3491) := ⟨HS.out.front 5 (by simp)⟩
    obtain ⟨t3492, HA3493, H⟩ := bind_some H
    refine (tint_Deepen_1.calls t3467.1 t3467.2.1 t3467.2.2.1 t3467.2.2.2.1 t3467.2.2.2.2.1 t3467.2.2.2.2.2.1 t3467.2.2.2.2.2.2.1 t3489.1 l3343 t3489.2 a3349 a3350 a3351 a3352 a3358 g3470 g3355 g3339 g3341 A3344 l3343.length n3346 g3357 t3492 _ ⟨HGl0.out.pass HS.out⟩ ⟨HS.out.begin⟩ HA3493).mono ?_
    rintro e_ w3494 ⟨rfl, hS⟩
    replace HS : Aside0 (Sep FF w [b16 g3470 t3467.1 t3467.2.1 t3467.2.2.1 t3492.1 t3467.2.2.2.2.1 t3467.2.2.2.2.2.1 t3467.2.2.2.2.2.2.1, b9 g3355 g3339, b7 g3339 g3341 a3349 a3350 a3351 a3352, b6 g3341 A3344 l3343.length n3346 t3492.2.1, r5 A3344 l3343.length n3346 t3492.2.2, b10 g3357 a3358] w3494) := ⟨HS.out.call hS⟩
    clear hS
    have hc3495 : w3494.cell? ⟨g3470, 0, none⟩ = some (.int .i64 t3467.1) := blk_cellv (HS.out.at0) 0 rfl
    have hc3496 : w3494.cell? ⟨g3470, 1, none⟩ = some (.int .i64 t3467.2.1) := blk_cellv (HS.out.at0) 1 rfl
    have hc3497 : w3494.cell? ⟨g3470, 2, none⟩ = some (.int .i64 t3467.2.2.1) := blk_cellv (HS.out.at0) 2 rfl
    have hc3498 : w3494.cell? ⟨g3470, 3, none⟩ = some (.int .i64 t3492.1) := blk_cellv (HS.out.at0) 3 rfl
    have hc3499 : w3494.cell? ⟨g3470, 4, none⟩ = some (.int .i64 t3467.2.2.2.2.1) := blk_cellv (HS.out.at0) 4 rfl
    have hc3500 : w3494.cell? ⟨g3470, 5, none⟩ = some (.int .i64 t3467.2.2.2.2.2.1) := blk_cellv (HS.out.at0) 5 rfl
    have hc3501 : w3494.cell? ⟨g3470, 6, none⟩ = some (.int .i64 t3467.2.2.2.2.2.2.1) := blk_cellv (HS.out.at0) 6 rfl
    go_wp2_with fail
    clear hc3495 hc3496 hc3497 hc3498 hc3499 hc3500 hc3501
    obtain ⟨t3502, HA3503, H⟩ := bind_some H
    refine (tag_Pack.calls _ t3467.1 t3467.2.1 t3467.2.2.1 t3492.1 t3467.2.2.2.2.1 t3467.2.2.2.2.2.1 t3467.2.2.2.2.2.2.1 t3502 _ ⟨HGl0.out.pass (l := []) HS.out⟩ ⟨Sep.start _⟩ HA3503).mono ?_
    rintro e_ w3504 ⟨rfl, hS⟩
    replace HS : Aside0 (Sep FF w [b16 g3470 t3467.1 t3467.2.1 t3467.2.2.1 t3492.1 t3467.2.2.2.2.1 t3467.2.2.2.2.2.1 t3467.2.2.2.2.2.2.1, b9 g3355 g3339, b7 g3339 g3341 a3349 a3350 a3351 a3352, b6 g3341 A3344 l3343.length n3346 t3492.2.1, r5 A3344 l3343.length n3346 t3492.2.2, b10 g3357 a3358] w3504) := ⟨HS.out.call hS⟩
    clear hS
    by_cases c3505 : t3502.2 = 0
    · replace H := if_yes c3505 H
      have c3505b0 : (t3502.2 == 0) = true := beq_iff_eq.mpr c3505
      have c3505b1 : (t3502.2 != 0) = false := bne_eq_false_iff_eq.mpr c3505
      clear c3505
      replace HS : Aside0 (Sep FF w [b9 g3355 g3339, b7 g3339 g3341 a3349 a3350 a3351 a3352, b6 g3341 A3344 l3343.length n3346 t3492.2.1, r5 A3344 l3343.length n3346 t3492.2.2, b10 g3357 a3358] w3504) := ⟨HS.out.sub (.cons _ (.cons_cons _ (.cons_cons _ (.cons_cons _ (.cons_cons _ (.cons_cons _ .slnil))))))⟩
      go_wp2_with fail
      replace HS : Aside0 (Sep FF w [r5 A3344 l3343.length n3346 t3492.2.2, b9 g3355 g3339, b7 g3339 g3341 a3349 a3350 a3351 a3352, b6 g3341 A3344 l3343.length n3346 t3492.2.1, b10 g3357 a3358] w3504) := ⟨HS.out.front 3 (by simp)⟩
      replace HS : Aside0 (Sep FF w [b6 g3341 A3344 l3343.length n3346 t3492.2.1, r5 A3344 l3343.length n3346 t3492.2.2, b9 g3355 g3339, b7 g3339 g3341 a3349 a3350 a3351 a3352, b10 g3357 a3358] w3504) := ⟨HS.out.front 3 (by simp)⟩
      replace HS : Aside0 (Sep FF w [b7 g3339 g3341 a3349 a3350 a3351 a3352, b6 g3341 A3344 l3343.length n3346 t3492.2.1, r5 A3344 l3343.length n3346 t3492.2.2, b9 g3355 g3339, b10 g3357 a3358] w3504) := ⟨HS.out.front 3 (by simp)⟩
      obtain ⟨t3506, HA3507, H⟩ := bind_some H
      refine (ground_Ground_SetWord.calls t3492.2.2 t3492.2.1 a3349 a3350 a3351 a3352 (wrap64 (a3353 - 1)) 0 t3502.1 g3339 g3341 A3344 l3343.length n3346 t3506 _ ⟨HGl0.out.pass HS.out⟩ ⟨HS.out.begin⟩ HA3507).mono ?_
      rintro e_ w3508 ⟨rfl, hS⟩
      replace HS : Aside0 (Sep FF w [b7 g3339 g3341 a3349 a3350 a3351 a3352, b6 g3341 A3344 l3343.length n3346 t3506.2.1, r5 A3344 l3343.length n3346 t3506.2.2, b9 g3355 g3339, b10 g3357 a3358] w3508) := ⟨HS.out.call hS⟩
      clear hS
      go_wp2_with fail
      go_ret
      rw [← some_eq H]
      exact ⟨(by first | rfl | (simp [IntKind.wrap_u32]; done)), HS.out⟩
    · replace H := if_no c3505 H
      have c3505b0 : (t3502.2 == 0) = false := beq_eq_false_iff_ne.mpr c3505
      have c3505b1 : (t3502.2 != 0) = true := bne_iff_ne.mpr c3505
      clear c3505
      replace HS : Aside0 (Sep FF w [b9 g3355 g3339, b7 g3339 g3341 a3349 a3350 a3351 a3352, b6 g3341 A3344 l3343.length n3346 t3492.2.1, r5 A3344 l3343.length n3346 t3492.2.2, b10 g3357 a3358] w3504) := ⟨HS.out.sub (.cons _ (.cons_cons _ (.cons_cons _ (.cons_cons _ (.cons_cons _ (.cons_cons _ .slnil))))))⟩
      go_wp2_with fail
      go_ret
      rw [← some_eq H]
      exact ⟨(by first | rfl | (simp [IntKind.wrap_u32]; done)), ((((((HS.out).front 4 (by simp)).front 1 (by simp)).front 4 (by simp)).front 4 (by simp)).front 4 (by simp)).keep (l := [b7 g3339 g3341 a3349 a3350 a3351 a3352, b6 g3341 A3344 l3343.length n3346 t3492.2.1, r5 A3344 l3343.length n3346 t3492.2.2, b9 g3355 g3339, b10 g3357 a3358]) (rest := [])⟩
  · replace H := if_no c3488 H
    have c3488b0 : t3467.2.2.2.2.2.2.2.1 = false := by simpa using c3488
    have c3488b1 : (!t3467.2.2.2.2.2.2.2.1) = true := by rw [c3488b0]; rfl
    try rw [c3488b1]
    clear c3488
    go_wp2_with (first | ((with_reducible refine gate_dst (N := 7) rfl ?_); refine box_on ?hg (N := 7) ?hd (cs := #[.int .i64 0, .int .i64 0, .int .i64 0, .int .i64 0, .int .i64 0, .int .i64 0, .int .i64 0]) (t := 32) ?hr ?_; (case hd => rfl); (case hg => rfl); (case hr => first | (go_simp; done) | (go_simp; rfl)); intro g3470 hg w3471 hbox hb; replace HS : Aside0 (Sep FF w [b7 g3339 g3341 a3349 a3350 a3351 a3352, b6 g3341 A3344 l3343.length n3346 t3467.2.2.2.2.2.2.2.2, r5 A3344 l3343.length n3346 l3343, b9 g3355 g3339, b10 g3357 a3358, b16 g3470 0 0 0 0 0 0 0] w3471) := ⟨HS.out.box hg hbox hb⟩; clear hg hbox hb; have hc3473 : w3471.cell? ⟨g3470, 0, none⟩ = some (.int .i64 0) := blk_cellv (HS.out.at5) 0 rfl; have hz3474 : w3471.frozen? ⟨g3470, 0, none⟩ = false := blk_fz (HS.out.at5) 0; have hc3475 : w3471.cell? ⟨g3470, 1, none⟩ = some (.int .i64 0) := blk_cellv (HS.out.at5) 1 rfl; have hz3476 : w3471.frozen? ⟨g3470, 1, none⟩ = false := blk_fz (HS.out.at5) 1; have hc3477 : w3471.cell? ⟨g3470, 2, none⟩ = some (.int .i64 0) := blk_cellv (HS.out.at5) 2 rfl; have hz3478 : w3471.frozen? ⟨g3470, 2, none⟩ = false := blk_fz (HS.out.at5) 2; have hc3479 : w3471.cell? ⟨g3470, 3, none⟩ = some (.int .i64 0) := blk_cellv (HS.out.at5) 3 rfl; have hz3480 : w3471.frozen? ⟨g3470, 3, none⟩ = false := blk_fz (HS.out.at5) 3; have hc3481 : w3471.cell? ⟨g3470, 4, none⟩ = some (.int .i64 0) := blk_cellv (HS.out.at5) 4 rfl; have hz3482 : w3471.frozen? ⟨g3470, 4, none⟩ = false := blk_fz (HS.out.at5) 4; have hc3483 : w3471.cell? ⟨g3470, 5, none⟩ = some (.int .i64 0) := blk_cellv (HS.out.at5) 5 rfl; have hz3484 : w3471.frozen? ⟨g3470, 5, none⟩ = false := blk_fz (HS.out.at5) 5; have hc3485 : w3471.cell? ⟨g3470, 6, none⟩ = some (.int .i64 0) := blk_cellv (HS.out.at5) 6 rfl; have hz3486 : w3471.frozen? ⟨g3470, 6, none⟩ = false := blk_fz (HS.out.at5) 6) | ((with_reducible refine gate_store (t := 32) (p := 7) rfl ?_); refine store_event (w1 := (World.setCell (World.setCell (World.setCell (World.setCell (World.setCell (World.setCell (World.setCell w3471 ⟨g3470, 0, none⟩ (.int .i64 t3467.1)) ⟨g3470, 1, none⟩ (.int .i64 t3467.2.1)) ⟨g3470, 2, none⟩ (.int .i64 t3467.2.2.1)) ⟨g3470, 3, none⟩ (.int .i64 t3467.2.2.2.1)) ⟨g3470, 4, none⟩ (.int .i64 t3467.2.2.2.2.1)) ⟨g3470, 5, none⟩ (.int .i64 t3467.2.2.2.2.2.1)) ⟨g3470, 6, none⟩ (.int .i64 t3467.2.2.2.2.2.2.1))) rfl (t := 32) (p := 7) rfl rfl ?hr ?_; (case hr => first | (go_simp; done) | (go_simp; rfl)); intro w3487 hst; clear hc3473 hz3474 hc3475 hz3476 hc3477 hz3478 hc3479 hz3480 hc3481 hz3482 hc3483 hz3484 hc3485 hz3486; replace HS : Aside0 (Sep FF w [b7 g3339 g3341 a3349 a3350 a3351 a3352, b6 g3341 A3344 l3343.length n3346 t3467.2.2.2.2.2.2.2.2, r5 A3344 l3343.length n3346 l3343, b9 g3355 g3339, b10 g3357 a3358, b16 g3470 t3467.1 t3467.2.1 t3467.2.2.1 t3467.2.2.2.1 t3467.2.2.2.2.1 t3467.2.2.2.2.2.1 t3467.2.2.2.2.2.2.1] w3487) := ⟨by rw [hst]; exact HS.out.setAll (l1 := [b7 g3339 g3341 a3349 a3350 a3351 a3352, b6 g3341 A3344 l3343.length n3346 t3467.2.2.2.2.2.2.2.2, r5 A3344 l3343.length n3346 l3343, b9 g3355 g3339, b10 g3357 a3358]) (l2 := []) [.int .i64 t3467.1, .int .i64 t3467.2.1, .int .i64 t3467.2.2.1, .int .i64 t3467.2.2.2.1, .int .i64 t3467.2.2.2.2.1, .int .i64 t3467.2.2.2.2.2.1, .int .i64 t3467.2.2.2.2.2.2.1] rfl⟩; clear hst; replace HS : Aside0 (Sep FF w [b7 g3339 g3341 a3349 a3350 a3351 a3352, b6 g3341 A3344 l3343.length n3346 t3467.2.2.2.2.2.2.2.2, r5 A3344 l3343.length n3346 l3343, b9 g3355 g3339, b10 g3357 a3358] w3487) := ⟨HS.out.sub (.cons_cons _ (.cons_cons _ (.cons_cons _ (.cons_cons _ (.cons_cons _ (.cons _ .slnil))))))⟩))
    go_ret
    rw [← some_eq H]
    exact ⟨(by first | rfl | (simp [IntKind.wrap_u32]; done)), HS.out⟩

set_option maxHeartbeats 30000000 in
set_option maxRecDepth 100000 in
theorem tint_Deepen.calls (k : Nat) (l3319 : List Int) (a3324 : Int) (a3325 : Int) (a3326 : Int) (a3327 : Int) (a3328 : Int) (a3329 : Int) (g3315 : Nat) (g3317 : Nat) (A3320 : Option Addr) (m3321 : Nat) (n3322 : Nat) (r : Bool × Int × List Int) (w : World)  (HGl0 : Aside0 (Gl 0 #[.int .i64 0, .int .i64 0, .int .i64 0, .int .i64 0, .int .i64 0] (fps [b7 g3315 g3317 a3325 a3326 a3327 a3328, b6 g3317 A3320 m3321 n3322 a3324, r5 A3320 m3321 n3322 l3319]) w)) (HS : Aside0 (Sep (fps [b7 g3315 g3317 a3325 a3326 a3327 a3328, b6 g3317 A3320 m3321 n3322 a3324, r5 A3320 m3321 n3322 l3319]) w [b7 g3315 g3317 a3325 a3326 a3327 a3328, b6 g3317 A3320 m3321 n3322 a3324, r5 A3320 m3321 n3322 l3319] w)) (H : Aside0 (tint_Deepen.f k l3319 a3324 a3325 a3326 a3327 a3328 a3329 = some r)) :
    Calls Tryd.prog 50 #[.pointer (some ⟨g3315, 0, none⟩), .int .i64 a3329] w fun e w' => e = .returned (.bool r.1) ∧ Sep (fps [b7 g3315 g3317 a3325 a3326 a3327 a3328, b6 g3317 A3320 m3321 n3322 a3324, r5 A3320 m3321 n3322 l3319]) w [b7 g3315 g3317 a3325 a3326 a3327 a3328, b6 g3317 A3320 m3321 n3322 r.2.1, r5 A3320 m3321 n3322 r.2.2] w' := by
  generalize (fps [b7 g3315 g3317 a3325 a3326 a3327 a3328, b6 g3317 A3320 m3321 n3322 a3324, r5 A3320 m3321 n3322 l3319]) = FF at HS HGl0 ⊢
  obtain rfl := (row_len (HS.out.at2)).symm
  unfold tint_Deepen.f at H
  go_enter Tryd.func50, Tryd.ntmps50
  go_wp2_with (first | ((with_reducible refine gate_dst (N := 2) rfl ?_); refine box_on ?hg (N := 2) ?hd (cs := #[.pointer (some ⟨g3315, 0, none⟩)]) (t := 25) ?hr ?_; (case hd => rfl); (case hg => rfl); (case hr => first | (go_simp; done) | (go_simp; rfl)); intro g3512 hg w3513 hbox hb; replace HS : Aside0 (Sep FF w [b7 g3315 g3317 a3325 a3326 a3327 a3328, b6 g3317 A3320 l3319.length n3322 a3324, r5 A3320 l3319.length n3322 l3319, b9 g3512 g3315] w3513) := ⟨HS.out.box hg hbox hb⟩; clear hg hbox hb) | ((with_reducible refine gate_dst (N := 3) rfl ?_); refine box_on ?hg (N := 3) ?hd (cs := #[.int .i64 a3329]) (t := 3) ?hr ?_; (case hd => rfl); (case hg => rfl); (case hr => first | (go_simp; done) | (go_simp; rfl)); intro g3515 hg w3516 hbox hb; replace HS : Aside0 (Sep FF w [b7 g3315 g3317 a3325 a3326 a3327 a3328, b6 g3317 A3320 l3319.length n3322 a3324, r5 A3320 l3319.length n3322 l3319, b9 g3512 g3315, b10 g3515 a3329] w3516) := ⟨HS.out.box hg hbox hb⟩; clear hg hbox hb; have hc3518 : w3516.cell? ⟨g3512, 0, none⟩ = some (.pointer (some ⟨g3315, 0, none⟩)) := blk_cellv (HS.out.at3) 0 rfl; have hc3519 : w3516.cell? ⟨g3515, 0, none⟩ = some (.int .i64 a3329) := blk_cellv (HS.out.at4) 0 rfl))
  clear hc3518 hc3519
  obtain ⟨t3520, HA3521, H⟩ := bind_some H
  refine (tint_change_F109.calls _ l3319 a3324 a3325 a3326 a3327 a3328 a3329 a3329 g3315 g3317 A3320 l3319.length n3322 g3512 g3515 t3520 _ ⟨HGl0.out.pass HS.out⟩ ⟨HS.out.begin⟩ HA3521).mono ?_
  rintro e_ w3522 ⟨rfl, hS⟩
  replace HS : Aside0 (Sep FF w [b7 g3315 g3317 a3325 a3326 a3327 a3328, b6 g3317 A3320 l3319.length n3322 t3520.2.1, r5 A3320 l3319.length n3322 t3520.2.2, b9 g3512 g3315, b10 g3515 a3329] w3522) := ⟨HS.out.call hS⟩
  clear hS
  replace HS : Aside0 (Sep FF w [b7 g3315 g3317 a3325 a3326 a3327 a3328, b6 g3317 A3320 l3319.length n3322 t3520.2.1, r5 A3320 l3319.length n3322 t3520.2.2] w3522) := ⟨HS.out.sub (.cons_cons _ (.cons_cons _ (.cons_cons _ (.cons _ (.cons _ .slnil)))))⟩
  go_wp2_with fail
  go_ret
  rw [← some_eq H]
  exact ⟨(by first | rfl | (simp [IntKind.wrap_u32]; done)), HS.out⟩

set_option maxHeartbeats 30000000 in
set_option maxRecDepth 100000 in
theorem tint_Turn.calls (l3532 : List Int) (a3537 : Int) (a3538 : Int) (a3539 : Int) (a3540 : Int) (a3541 : Int) (g3528 : Nat) (g3530 : Nat) (A3533 : Option Addr) (m3534 : Nat) (n3535 : Nat) (r : Int × List Int) (w : World)  (HGl0 : Aside0 (Gl 0 #[.int .i64 0, .int .i64 0, .int .i64 0, .int .i64 0, .int .i64 0] (fps [b7 g3528 g3530 a3538 a3539 a3540 a3541, b6 g3530 A3533 m3534 n3535 a3537, r5 A3533 m3534 n3535 l3532]) w)) (HS : Aside0 (Sep (fps [b7 g3528 g3530 a3538 a3539 a3540 a3541, b6 g3530 A3533 m3534 n3535 a3537, r5 A3533 m3534 n3535 l3532]) w [b7 g3528 g3530 a3538 a3539 a3540 a3541, b6 g3530 A3533 m3534 n3535 a3537, r5 A3533 m3534 n3535 l3532] w)) (H : Aside0 (tint_Turn.f l3532 a3537 a3538 a3539 a3540 a3541 = some r)) :
    Calls Tryd.prog 51 #[.pointer (some ⟨g3528, 0, none⟩)] w fun e w' => e = .returned (.tuple #[]) ∧ Sep (fps [b7 g3528 g3530 a3538 a3539 a3540 a3541, b6 g3530 A3533 m3534 n3535 a3537, r5 A3533 m3534 n3535 l3532]) w [b7 g3528 g3530 a3538 a3539 a3540 a3541, b6 g3530 A3533 m3534 n3535 r.1, r5 A3533 m3534 n3535 r.2] w' := by
  generalize (fps [b7 g3528 g3530 a3538 a3539 a3540 a3541, b6 g3530 A3533 m3534 n3535 a3537, r5 A3533 m3534 n3535 l3532]) = FF at HS HGl0 ⊢
  obtain rfl := (row_len (HS.out.at2)).symm
  unfold tint_Turn.f at H
  go_enter Tryd.func51, Tryd.ntmps51
  go_wp2_with fail
  obtain ⟨t3548, HA3549, H⟩ := bind_some H
  refine (ground_Ground_Reg.calls l3532 a3537 a3538 a3539 a3540 a3541 10 g3528 g3530 A3533 l3532.length n3535 t3548 _ ⟨HGl0.out.pass HS.out⟩ ⟨HS.out.begin⟩ HA3549).mono ?_
  rintro e_ w3550 ⟨rfl, hS⟩
  replace HS : Aside0 (Sep FF w [b7 g3528 g3530 a3538 a3539 a3540 a3541, b6 g3530 A3533 l3532.length n3535 t3548.2, r5 A3533 l3532.length n3535 l3532] w3550) := ⟨HS.out.call hS⟩
  clear hS
  go_wp2_with fail
  obtain ⟨t3551, HA3552, H⟩ := bind_some H
  refine (ground_Ground_SetReg.calls l3532 t3548.2 a3538 a3539 a3540 a3541 10 (wrap64 (1 - t3548.1)) g3528 g3530 A3533 l3532.length n3535 t3551 _ ⟨HGl0.out.pass HS.out⟩ ⟨HS.out.begin⟩ HA3552).mono ?_
  rintro e_ w3553 ⟨rfl, hS⟩
  replace HS : Aside0 (Sep FF w [b7 g3528 g3530 a3538 a3539 a3540 a3541, b6 g3530 A3533 l3532.length n3535 t3551.2.1, r5 A3533 l3532.length n3535 t3551.2.2] w3553) := ⟨HS.out.call hS⟩
  clear hS
  go_wp2_with fail
  first | go_end0 | refine bodyPost_ret (results_none rfl _ _ _) rfl ?_
  rw [← some_eq H]
  exact ⟨rfl, HS.out⟩

set_option maxHeartbeats 30000000 in
set_option maxRecDepth 100000 in
theorem tint_Shadow.calls (l3565 : List Int) (a3570 : Int) (a3571 : Int) (a3572 : Int) (a3573 : Int) (a3574 : Int) (a3575 : Int) (g3561 : Nat) (g3563 : Nat) (A3566 : Option Addr) (m3567 : Nat) (n3568 : Nat) (r : Int × Int) (w : World)  (HGl0 : Aside0 (Gl 0 #[.int .i64 0, .int .i64 0, .int .i64 0, .int .i64 0, .int .i64 0] (fps [b7 g3561 g3563 a3571 a3572 a3573 a3574, b6 g3563 A3566 m3567 n3568 a3570, r5 A3566 m3567 n3568 l3565]) w)) (HS : Aside0 (Sep (fps [b7 g3561 g3563 a3571 a3572 a3573 a3574, b6 g3563 A3566 m3567 n3568 a3570, r5 A3566 m3567 n3568 l3565]) w [b7 g3561 g3563 a3571 a3572 a3573 a3574, b6 g3563 A3566 m3567 n3568 a3570, r5 A3566 m3567 n3568 l3565] w)) (H : Aside0 (tint_Shadow.f l3565 a3570 a3571 a3572 a3573 a3574 a3575 = some r)) :
    Calls Tryd.prog 52 #[.pointer (some ⟨g3561, 0, none⟩), .int .i64 a3575] w fun e w' => e = .returned (.int .i64 r.1) ∧ Sep (fps [b7 g3561 g3563 a3571 a3572 a3573 a3574, b6 g3563 A3566 m3567 n3568 a3570, r5 A3566 m3567 n3568 l3565]) w [b7 g3561 g3563 a3571 a3572 a3573 a3574, b6 g3563 A3566 m3567 n3568 r.2, r5 A3566 m3567 n3568 l3565] w' := by
  generalize (fps [b7 g3561 g3563 a3571 a3572 a3573 a3574, b6 g3563 A3566 m3567 n3568 a3570, r5 A3566 m3567 n3568 l3565]) = FF at HS HGl0 ⊢
  obtain rfl := (row_len (HS.out.at2)).symm
  unfold tint_Shadow.f at H
  go_enter Tryd.func52, Tryd.ntmps52
  go_wp2_with fail
  obtain ⟨t3607, HA3608, H⟩ := bind_some H
  refine (tint_of.calls l3565 a3570 a3571 a3572 a3573 a3574 a3575 g3561 g3563 A3566 l3565.length n3568 t3607 _ ⟨HGl0.out.pass HS.out⟩ ⟨HS.out.begin⟩ HA3608).mono ?_
  rintro e_ w3609 ⟨rfl, hS⟩
  replace HS : Aside0 (Sep FF w [b7 g3561 g3563 a3571 a3572 a3573 a3574, b6 g3563 A3566 l3565.length n3568 t3607.2.2.2.2.2.2.2.2, r5 A3566 l3565.length n3568 l3565] w3609) := ⟨HS.out.call hS⟩
  clear hS
  go_wp2_with (first | ((with_reducible refine gate_dst (N := 5) rfl ?_); refine box_on ?hg (N := 5) ?hd (cs := #[.int .i64 0, .int .i64 0, .int .i64 0, .int .i64 0, .int .i64 0, .int .i64 0, .int .i64 0]) (t := 32) ?hr ?_; (case hd => rfl); (case hg => rfl); (case hr => first | (go_simp; done) | (go_simp; rfl)); intro g3610 hg w3611 hbox hb; replace HS : Aside0 (Sep FF w [b7 g3561 g3563 a3571 a3572 a3573 a3574, b6 g3563 A3566 l3565.length n3568 t3607.2.2.2.2.2.2.2.2, r5 A3566 l3565.length n3568 l3565, b16 g3610 0 0 0 0 0 0 0] w3611) := ⟨HS.out.box hg hbox hb⟩; clear hg hbox hb; have hc3613 : w3611.cell? ⟨g3610, 0, none⟩ = some (.int .i64 0) := blk_cellv (HS.out.at3) 0 rfl; have hz3614 : w3611.frozen? ⟨g3610, 0, none⟩ = false := blk_fz (HS.out.at3) 0; have hc3615 : w3611.cell? ⟨g3610, 1, none⟩ = some (.int .i64 0) := blk_cellv (HS.out.at3) 1 rfl; have hz3616 : w3611.frozen? ⟨g3610, 1, none⟩ = false := blk_fz (HS.out.at3) 1; have hc3617 : w3611.cell? ⟨g3610, 2, none⟩ = some (.int .i64 0) := blk_cellv (HS.out.at3) 2 rfl; have hz3618 : w3611.frozen? ⟨g3610, 2, none⟩ = false := blk_fz (HS.out.at3) 2; have hc3619 : w3611.cell? ⟨g3610, 3, none⟩ = some (.int .i64 0) := blk_cellv (HS.out.at3) 3 rfl; have hz3620 : w3611.frozen? ⟨g3610, 3, none⟩ = false := blk_fz (HS.out.at3) 3; have hc3621 : w3611.cell? ⟨g3610, 4, none⟩ = some (.int .i64 0) := blk_cellv (HS.out.at3) 4 rfl; have hz3622 : w3611.frozen? ⟨g3610, 4, none⟩ = false := blk_fz (HS.out.at3) 4; have hc3623 : w3611.cell? ⟨g3610, 5, none⟩ = some (.int .i64 0) := blk_cellv (HS.out.at3) 5 rfl; have hz3624 : w3611.frozen? ⟨g3610, 5, none⟩ = false := blk_fz (HS.out.at3) 5; have hc3625 : w3611.cell? ⟨g3610, 6, none⟩ = some (.int .i64 0) := blk_cellv (HS.out.at3) 6 rfl; have hz3626 : w3611.frozen? ⟨g3610, 6, none⟩ = false := blk_fz (HS.out.at3) 6) | ((with_reducible refine gate_store (t := 32) (p := 5) rfl ?_); refine store_event (w1 := (World.setCell (World.setCell (World.setCell (World.setCell (World.setCell (World.setCell (World.setCell w3611 ⟨g3610, 0, none⟩ (.int .i64 t3607.1)) ⟨g3610, 1, none⟩ (.int .i64 t3607.2.1)) ⟨g3610, 2, none⟩ (.int .i64 t3607.2.2.1)) ⟨g3610, 3, none⟩ (.int .i64 t3607.2.2.2.1)) ⟨g3610, 4, none⟩ (.int .i64 t3607.2.2.2.2.1)) ⟨g3610, 5, none⟩ (.int .i64 t3607.2.2.2.2.2.1)) ⟨g3610, 6, none⟩ (.int .i64 t3607.2.2.2.2.2.2.1))) rfl (t := 32) (p := 5) rfl rfl ?hr ?_; (case hr => first | (go_simp; done) | (go_simp; rfl)); intro w3627 hst; clear hc3613 hz3614 hc3615 hz3616 hc3617 hz3618 hc3619 hz3620 hc3621 hz3622 hc3623 hz3624 hc3625 hz3626; replace HS : Aside0 (Sep FF w [b7 g3561 g3563 a3571 a3572 a3573 a3574, b6 g3563 A3566 l3565.length n3568 t3607.2.2.2.2.2.2.2.2, r5 A3566 l3565.length n3568 l3565, b16 g3610 t3607.1 t3607.2.1 t3607.2.2.1 t3607.2.2.2.1 t3607.2.2.2.2.1 t3607.2.2.2.2.2.1 t3607.2.2.2.2.2.2.1] w3627) := ⟨by rw [hst]; exact HS.out.setAll (l1 := [b7 g3561 g3563 a3571 a3572 a3573 a3574, b6 g3563 A3566 l3565.length n3568 t3607.2.2.2.2.2.2.2.2, r5 A3566 l3565.length n3568 l3565]) (l2 := []) [.int .i64 t3607.1, .int .i64 t3607.2.1, .int .i64 t3607.2.2.1, .int .i64 t3607.2.2.2.1, .int .i64 t3607.2.2.2.2.1, .int .i64 t3607.2.2.2.2.2.1, .int .i64 t3607.2.2.2.2.2.2.1] rfl⟩; clear hst))
  refine start_ (n := 9) (S := (fun w' => w'.cell? ⟨g3610, 3, none⟩ = some (.int .i64 t3607.2.2.2.1))) (ds := []) #[false, false, false, false, false, false, false, false, false] (by kernel_rfl) rfl rfl (blk_cellv ((HS.out.drew).at3) 3 rfl) (fun hHeld => ?_)
  have HS_ := Aside0.mk HS.out.drew
  clear HS
  generalize World.drew _ = w3629 at HS_ hHeld ⊢
  have HS := HS_
  clear HS_
  refine pure_ (i := 0) (N := some 13) (v := ?_) (a' := ?_) #[true, false, false, false, false, false, false, false, false] rfl rfl (by kernel_rfl) (fun _ _ _ h => h) (Or.inl ⟨by rfl, ?_⟩) ?_ ?_
  rotate_left
  · intro w'
    go_simp
    with_reducible rfl
  rotate_left
  · simp only [Act.put, List.setIfInBounds_toArray, List.set_cons_zero, List.set_cons_succ, i64_w, i32_w]
    rfl
  refine pure_ (i := 1) (N := some 14) (v := ?_) (a' := ?_) #[true, true, false, false, false, false, false, false, false] rfl rfl (by kernel_rfl) (fun _ _ _ h => h) (Or.inl ⟨by rfl, ?_⟩) ?_ ?_
  rotate_left
  · intro w'
    go_simp
    with_reducible rfl
  rotate_left
  · simp only [Act.put, List.setIfInBounds_toArray, List.set_cons_zero, List.set_cons_succ, i64_w, i32_w]
    rfl
  refine pure_ (i := 2) (N := some 15) (v := ?_) (a' := ?_) #[true, true, true, false, false, false, false, false, false] rfl rfl (by kernel_rfl) (fun _ _ _ h => h) (Or.inl ⟨by rfl, ?_⟩) ?_ ?_
  rotate_left
  · intro w'
    go_simp
    with_reducible rfl
  rotate_left
  · simp only [Act.put, List.setIfInBounds_toArray, List.set_cons_zero, List.set_cons_succ, i64_w, i32_w]
    rfl
  by_cases c3630 : t3607.2.2.2.2.2.2.2.1 = true
  · replace H := if_yes c3630 H
    have c3630b0 : t3607.2.2.2.2.2.2.2.1 = true := c3630
    have c3630b1 : (!t3607.2.2.2.2.2.2.2.1) = false := by rw [c3630b0]; rfl
    try rw [c3630b1]
    clear c3630
    try simp only [c3630b0, Bool.not_true, Bool.not_false]
    refine pure_ (i := 3) (N := some 16) (v := ?_) (a' := ?_) #[true, true, true, true, false, false, false, false, false] rfl rfl (by kernel_rfl) (fun _ _ _ h => h) (Or.inl ⟨by rfl, ?_⟩) ?_ ?_
    rotate_left
    · intro w'
      go_simp
      with_reducible rfl
    rotate_left
    · simp only [Act.put, List.setIfInBounds_toArray, List.set_cons_zero, List.set_cons_succ, i64_w, i32_w]
      rfl
    try simp only [c3630b0, Bool.not_true, Bool.not_false]
    refine pure_ (i := 5) (N := some 18) (v := ?_) (a' := ?_) #[true, true, true, true, false, true, false, false, false] rfl rfl (by kernel_rfl) (fun _ _ _ h => h) (Or.inl ⟨by rfl, ?_⟩) ?_ ?_
    rotate_left
    · intro w'
      go_simp
      with_reducible rfl
    rotate_left
    · simp only [Act.put, List.setIfInBounds_toArray, List.set_cons_zero, List.set_cons_succ, i64_w, i32_w]
      rfl
    try simp only [c3630b0, Bool.not_true, Bool.not_false]
    refine take_ (i := 4) (N := some 17) (v := ?_) (a' := ?_) #[true, true, true, true, true, true, false, false, false] rfl rfl (by kernel_rfl) (fun _ _ _ h => h) (Or.inl ⟨by rfl, ?_⟩) hHeld ?_ ?_
    rotate_left
    · rintro w' hS'
      have s0 := hS'
      go_simp
      with_reducible rfl
    rotate_left
    · simp only [Act.put, List.setIfInBounds_toArray, List.set_cons_zero, List.set_cons_succ, i64_w, i32_w]
      rfl
    try simp only [c3630b0, Bool.not_true, Bool.not_false]
    refine one_ (i := 6) (N := some 19) #[true, true, true, true, true, true, true, false, false] rfl rfl (by kernel_rfl) (by decide) (fun K hK => ?_)
    obtain ⟨t3631, HA3632, H⟩ := bind_some H
    refine goes_ Tryd.func111 (by kernel_rfl) rfl #[.pointer (some ⟨g3561, 0, none⟩)] (by rfl) rfl rfl (by (try simp only [List.map_toArray, List.map_cons, List.map_nil]); first | done | rfl) ?_
    refine (tint_Parity.calls l3565 t3607.2.2.2.2.2.2.2.2 a3571 a3572 a3573 a3574 g3561 g3563 A3566 l3565.length n3568 t3631 _ ⟨HGl0.out.pass HS.out⟩ ⟨HS.out.begin⟩ HA3632).mono ?_
    rintro e_ w3633 ⟨rfl, hS⟩
    replace HS : Aside0 (Sep FF w [b7 g3561 g3563 a3571 a3572 a3573 a3574, b6 g3563 A3566 l3565.length n3568 t3631.2, r5 A3566 l3565.length n3568 l3565, b16 g3610 t3607.1 t3607.2.1 t3607.2.2.1 t3607.2.2.2.1 t3607.2.2.2.2.1 t3607.2.2.2.2.2.1 t3607.2.2.2.2.2.2.1] w3633) := ⟨HS.out.call hS⟩
    clear hS
    refine ⟨_, rfl, ?_⟩
    refine hK.out _ _ (blk_cellv (HS.out.at3) 3 rfl) (fun hHeld => ?_)
    clear hK K
    refine norm_ (a' := ?_) ?_ ?_
    rotate_left
    · show Act.put _ (some 19) _ = _
      simp only [Act.put, List.setIfInBounds_toArray, List.set_cons_zero, List.set_cons_succ, i64_w, i32_w]
      rfl
    try simp only [c3630b0, Bool.not_true, Bool.not_false]
    refine pure_ (i := 7) (N := some 20) (v := ?_) (a' := ?_) #[true, true, true, true, true, true, true, true, false] rfl rfl (by kernel_rfl) (fun _ _ _ h => h) (Or.inl ⟨by rfl, ?_⟩) ?_ ?_
    rotate_left
    · intro w'
      go_simp
      with_reducible rfl
    rotate_left
    · simp only [Act.put, List.setIfInBounds_toArray, List.set_cons_zero, List.set_cons_succ, i64_w, i32_w]
      rfl
    refine pure_ (i := 8) (N := some 21) (v := ?_) (a' := ?_) #[true, true, true, true, true, true, true, true, true] rfl rfl (by kernel_rfl) (fun _ _ _ h => h) (Or.inl ⟨by rfl, ?_⟩) ?_ ?_
    rotate_left
    · intro w'
      go_simp
      with_reducible rfl
    rotate_left
    · simp only [Act.put, List.setIfInBounds_toArray, List.set_cons_zero, List.set_cons_succ, i64_w, i32_w]
      rfl
    refine done_ (by kernel_rfl) ?_
    by_cases c3634 : t3607.2.2.2.1 = t3631.1
    · replace H := if_yes c3634 H
      have c3634b0 : (t3607.2.2.2.1 == t3631.1) = true := beq_iff_eq.mpr c3634
      have c3634b1 : (t3607.2.2.2.1 != t3631.1) = false := bne_eq_false_iff_eq.mpr c3634
      clear c3634
      replace HS : Aside0 (Sep FF w [b7 g3561 g3563 a3571 a3572 a3573 a3574, b6 g3563 A3566 l3565.length n3568 t3631.2, r5 A3566 l3565.length n3568 l3565] w3633) := ⟨HS.out.sub (.cons_cons _ (.cons_cons _ (.cons_cons _ (.cons _ .slnil))))⟩
      go_wp2_with fail
      obtain ⟨t3635, HA3636, H⟩ := bind_some H
      refine (ground_Ground_Word.calls l3565 t3631.2 a3571 a3572 a3573 a3574 (wrap64 (a3575 - 1)) 4 g3561 g3563 A3566 l3565.length n3568 t3635 _ ⟨HGl0.out.pass HS.out⟩ ⟨HS.out.begin⟩ HA3636).mono ?_
      rintro e_ w3637 ⟨rfl, hS⟩
      replace HS : Aside0 (Sep FF w [b7 g3561 g3563 a3571 a3572 a3573 a3574, b6 g3563 A3566 l3565.length n3568 t3635.2, r5 A3566 l3565.length n3568 l3565] w3637) := ⟨HS.out.call hS⟩
      clear hS
      go_wp2_with fail
      go_ret
      rw [← some_eq H]
      exact ⟨(by first | rfl | (simp [IntKind.wrap_u32]; done)), HS.out⟩
    · replace H := if_no c3634 H
      have c3634b0 : (t3607.2.2.2.1 == t3631.1) = false := beq_eq_false_iff_ne.mpr c3634
      have c3634b1 : (t3607.2.2.2.1 != t3631.1) = true := bne_iff_ne.mpr c3634
      clear c3634
      replace HS : Aside0 (Sep FF w [b7 g3561 g3563 a3571 a3572 a3573 a3574, b6 g3563 A3566 l3565.length n3568 t3631.2, r5 A3566 l3565.length n3568 l3565] w3633) := ⟨HS.out.sub (.cons_cons _ (.cons_cons _ (.cons_cons _ (.cons _ .slnil))))⟩
      go_wp2_with fail
      go_ret
      rw [← some_eq H]
      exact ⟨(by first | rfl | (simp [IntKind.wrap_u32]; done)), HS.out⟩
  · replace H := if_no c3630 H
    have c3630b0 : t3607.2.2.2.2.2.2.2.1 = false := by simpa using c3630
    have c3630b1 : (!t3607.2.2.2.2.2.2.2.1) = true := by rw [c3630b0]; rfl
    try rw [c3630b1]
    clear c3630
    try simp only [c3630b0, Bool.not_true, Bool.not_false]
    refine pure_ (i := 3) (N := some 16) (v := undef) (a' := ?_) #[true, true, true, true, false, false, false, false, false] rfl rfl (by kernel_rfl) (fun _ _ _ h => h) (Or.inr ⟨by rfl, rfl⟩) ?_ ?_
    rotate_left
    · simp only [Act.put, List.setIfInBounds_toArray, List.set_cons_zero, List.set_cons_succ, i64_w, i32_w]
      rfl
    try simp only [c3630b0, Bool.not_true, Bool.not_false]
    refine pure_ (i := 4) (N := some 17) (v := undef) (a' := ?_) #[true, true, true, true, true, false, false, false, false] rfl rfl (by kernel_rfl) (fun _ _ _ h => h) (Or.inr ⟨by rfl, rfl⟩) ?_ ?_
    rotate_left
    · simp only [Act.put, List.setIfInBounds_toArray, List.set_cons_zero, List.set_cons_succ, i64_w, i32_w]
      rfl
    try simp only [c3630b0, Bool.not_true, Bool.not_false]
    refine pure_ (i := 5) (N := some 18) (v := undef) (a' := ?_) #[true, true, true, true, true, true, false, false, false] rfl rfl (by kernel_rfl) (fun _ _ _ h => h) (Or.inr ⟨by rfl, rfl⟩) ?_ ?_
    rotate_left
    · simp only [Act.put, List.setIfInBounds_toArray, List.set_cons_zero, List.set_cons_succ, i64_w, i32_w]
      rfl
    try simp only [c3630b0, Bool.not_true, Bool.not_false]
    refine pure_ (i := 6) (N := some 19) (v := undef) (a' := ?_) #[true, true, true, true, true, true, true, false, false] rfl rfl (by kernel_rfl) (fun _ _ _ h => h) (Or.inr ⟨by rfl, rfl⟩) ?_ ?_
    rotate_left
    · simp only [Act.put, List.setIfInBounds_toArray, List.set_cons_zero, List.set_cons_succ, i64_w, i32_w]
      rfl
    try simp only [c3630b0, Bool.not_true, Bool.not_false]
    refine pure_ (i := 7) (N := some 20) (v := undef) (a' := ?_) #[true, true, true, true, true, true, true, true, false] rfl rfl (by kernel_rfl) (fun _ _ _ h => h) (Or.inr ⟨by rfl, rfl⟩) ?_ ?_
    rotate_left
    · simp only [Act.put, List.setIfInBounds_toArray, List.set_cons_zero, List.set_cons_succ, i64_w, i32_w]
      rfl
    refine pure_ (i := 8) (N := some 21) (v := ?_) (a' := ?_) #[true, true, true, true, true, true, true, true, true] rfl rfl (by kernel_rfl) (fun _ _ _ h => h) (Or.inl ⟨by rfl, ?_⟩) ?_ ?_
    rotate_left
    · intro w'
      go_simp
      with_reducible rfl
    rotate_left
    · simp only [Act.put, List.setIfInBounds_toArray, List.set_cons_zero, List.set_cons_succ, i64_w, i32_w]
      rfl
    refine done_ (by kernel_rfl) ?_
    replace HS : Aside0 (Sep FF w [b7 g3561 g3563 a3571 a3572 a3573 a3574, b6 g3563 A3566 l3565.length n3568 t3607.2.2.2.2.2.2.2.2, r5 A3566 l3565.length n3568 l3565] w3629) := ⟨HS.out.sub (.cons_cons _ (.cons_cons _ (.cons_cons _ (.cons _ .slnil))))⟩
    go_wp2_with fail
    go_ret
    rw [← some_eq H]
    exact ⟨(by first | rfl | (simp [IntKind.wrap_u32]; done)), HS.out⟩

set_option maxHeartbeats 30000000 in
set_option maxRecDepth 100000 in
theorem tint_Phase.calls (l3687 : List Int) (a3692 : Int) (a3693 : Int) (a3694 : Int) (a3695 : Int) (a3696 : Int) (g3683 : Nat) (g3685 : Nat) (A3688 : Option Addr) (m3689 : Nat) (n3690 : Nat) (r : Int × Int) (w : World)  (HGl0 : Aside0 (Gl 0 #[.int .i64 0, .int .i64 0, .int .i64 0, .int .i64 0, .int .i64 0] (fps [b7 g3683 g3685 a3693 a3694 a3695 a3696, b6 g3685 A3688 m3689 n3690 a3692, r5 A3688 m3689 n3690 l3687]) w)) (HS : Aside0 (Sep (fps [b7 g3683 g3685 a3693 a3694 a3695 a3696, b6 g3685 A3688 m3689 n3690 a3692, r5 A3688 m3689 n3690 l3687]) w [b7 g3683 g3685 a3693 a3694 a3695 a3696, b6 g3685 A3688 m3689 n3690 a3692, r5 A3688 m3689 n3690 l3687] w)) (H : Aside0 (tint_Phase.f l3687 a3692 a3693 a3694 a3695 a3696 = some r)) :
    Calls Tryd.prog 112 #[.pointer (some ⟨g3683, 0, none⟩)] w fun e w' => e = .returned (.int .i64 r.1) ∧ Sep (fps [b7 g3683 g3685 a3693 a3694 a3695 a3696, b6 g3685 A3688 m3689 n3690 a3692, r5 A3688 m3689 n3690 l3687]) w [b7 g3683 g3685 a3693 a3694 a3695 a3696, b6 g3685 A3688 m3689 n3690 r.2, r5 A3688 m3689 n3690 l3687] w' := by
  generalize (fps [b7 g3683 g3685 a3693 a3694 a3695 a3696, b6 g3685 A3688 m3689 n3690 a3692, r5 A3688 m3689 n3690 l3687]) = FF at HS HGl0 ⊢
  obtain rfl := (row_len (HS.out.at2)).symm
  unfold tint_Phase.f at H
  go_enter Tryd.func112, Tryd.ntmps112
  go_wp2_with fail
  obtain ⟨t3700, HA3701, H⟩ := bind_some H
  refine (ground_Ground_Reg.calls l3687 a3692 a3693 a3694 a3695 a3696 11 g3683 g3685 A3688 l3687.length n3690 t3700 _ ⟨HGl0.out.pass HS.out⟩ ⟨HS.out.begin⟩ HA3701).mono ?_
  rintro e_ w3702 ⟨rfl, hS⟩
  replace HS : Aside0 (Sep FF w [b7 g3683 g3685 a3693 a3694 a3695 a3696, b6 g3685 A3688 l3687.length n3690 t3700.2, r5 A3688 l3687.length n3690 l3687] w3702) := ⟨HS.out.call hS⟩
  clear hS
  go_wp2_with fail
  go_ret
  rw [← some_eq H]
  exact ⟨(by first | rfl | (simp [IntKind.wrap_u32]; done)), HS.out⟩

set_option maxHeartbeats 30000000 in
set_option maxRecDepth 100000 in
theorem tint_Paint_1.calls (a3799 : Int) (a3800 : Int) (a3801 : Int) (a3802 : Int) (a3803 : Int) (a3804 : Int) (a3805 : Int) (a3806 : Int) (g3798 : Nat) (r : Int) (w : World)  (HGl0 : Aside0 (Gl 0 #[.int .i64 0, .int .i64 0, .int .i64 0, .int .i64 0, .int .i64 0] (fps [b16 g3798 a3799 a3800 a3801 a3802 a3803 a3804 a3805]) w)) (HS : Aside0 (Sep (fps [b16 g3798 a3799 a3800 a3801 a3802 a3803 a3804 a3805]) w [b16 g3798 a3799 a3800 a3801 a3802 a3803 a3804 a3805] w)) (H : Aside0 (tint_Paint_1.f a3799 a3800 a3801 a3802 a3803 a3804 a3805 a3806 = some r)) :
    Calls Tryd.prog 141 #[.pointer (some ⟨g3798, 0, none⟩), .int .i64 a3806] w fun e w' => e = .returned (.tuple #[]) ∧ Sep (fps [b16 g3798 a3799 a3800 a3801 a3802 a3803 a3804 a3805]) w [b16 g3798 a3799 r a3801 a3802 a3803 a3804 a3805] w' := by
  generalize (fps [b16 g3798 a3799 a3800 a3801 a3802 a3803 a3804 a3805]) = FF at HS HGl0 ⊢
  unfold tint_Paint_1.f at H
  go_enter Tryd.func141, Tryd.ntmps141
  have hc3810 : w.cell? ⟨g3798, 1, none⟩ = some (.int .i64 a3800) := blk_cellv (HS.out.at0) 1 rfl
  have hz3811 : w.frozen? ⟨g3798, 1, none⟩ = false := blk_fz (HS.out.at0) 1
  go_wp2_with (first | ((with_reducible refine gate_store (t := 3) (p := 7) rfl ?_); refine store_event (w1 := (World.setCell w ⟨g3798, 1, none⟩ (.int .i64 a3806))) rfl (t := 3) (p := 7) rfl rfl ?hr ?_; (case hr => first | (go_simp; done) | (go_simp; rfl)); intro w3812 hst; clear hc3810 hz3811; have hq0 : Sep FF w [b16 g3798 a3799 a3806 a3801 a3802 a3803 a3804 a3805] (World.setCell w ⟨g3798, 1, none⟩ (.int .i64 a3806)) := (HS.out).set1 (l1 := []) (l2 := []) 1 (.int .i64 a3806); replace HS : Aside0 (Sep FF w [b16 g3798 a3799 a3806 a3801 a3802 a3803 a3804 a3805] w3812) := ⟨by rw [hst]; exact hq0⟩; clear hq0; clear hst))
  first | go_end0 | refine bodyPost_ret (results_none rfl _ _ _) rfl ?_
  rw [← some_eq H]
  exact ⟨rfl, HS.out⟩

set_option maxHeartbeats 30000000 in
set_option maxRecDepth 100000 in
theorem tint_change_F141.calls (k : Nat) (l3761 : List Int) (a3766 : Int) (a3767 : Int) (a3768 : Int) (a3769 : Int) (a3770 : Int) (a3771 : Int) (g3757 : Nat) (g3759 : Nat) (A3762 : Option Addr) (m3763 : Nat) (n3764 : Nat) (r : Bool × Int × List Int) (w : World)  (HGl0 : Aside0 (Gl 0 #[.int .i64 0, .int .i64 0, .int .i64 0, .int .i64 0, .int .i64 0] (fps [b7 g3757 g3759 a3767 a3768 a3769 a3770, b6 g3759 A3762 m3763 n3764 a3766, r5 A3762 m3763 n3764 l3761]) w)) (HS : Aside0 (Sep (fps [b7 g3757 g3759 a3767 a3768 a3769 a3770, b6 g3759 A3762 m3763 n3764 a3766, r5 A3762 m3763 n3764 l3761]) w [b7 g3757 g3759 a3767 a3768 a3769 a3770, b6 g3759 A3762 m3763 n3764 a3766, r5 A3762 m3763 n3764 l3761] w)) (H : Aside0 (tint_change_F141.f k l3761 a3766 a3767 a3768 a3769 a3770 a3771 = some r)) :
    Calls Tryd.prog 107 #[.pointer (some ⟨g3757, 0, none⟩), .int .i64 a3771, .func (.func 141) #[] #[]] w fun e w' => e = .returned (.bool r.1) ∧ Sep (fps [b7 g3757 g3759 a3767 a3768 a3769 a3770, b6 g3759 A3762 m3763 n3764 a3766, r5 A3762 m3763 n3764 l3761]) w [b7 g3757 g3759 a3767 a3768 a3769 a3770, b6 g3759 A3762 m3763 n3764 r.2.1, r5 A3762 m3763 n3764 r.2.2] w' := by
  generalize (fps [b7 g3757 g3759 a3767 a3768 a3769 a3770, b6 g3759 A3762 m3763 n3764 a3766, r5 A3762 m3763 n3764 l3761]) = FF at HS HGl0 ⊢
  obtain rfl := (row_len (HS.out.at2)).symm
  unfold tint_change_F141.f at H
  go_enter Tryd.func107, Tryd.ntmps107
  go_wp2_with fail
  obtain ⟨t3830, HA3831, H⟩ := bind_some H
  refine (tint_of.calls l3761 a3766 a3767 a3768 a3769 a3770 a3771 g3757 g3759 A3762 l3761.length n3764 t3830 _ ⟨HGl0.out.pass HS.out⟩ ⟨HS.out.begin⟩ HA3831).mono ?_
  rintro e_ w3832 ⟨rfl, hS⟩
  replace HS : Aside0 (Sep FF w [b7 g3757 g3759 a3767 a3768 a3769 a3770, b6 g3759 A3762 l3761.length n3764 t3830.2.2.2.2.2.2.2.2, r5 A3762 l3761.length n3764 l3761] w3832) := ⟨HS.out.call hS⟩
  clear hS
  by_cases c3851 : t3830.2.2.2.2.2.2.2.1 = true
  · replace H := if_yes c3851 H
    have c3851b0 : t3830.2.2.2.2.2.2.2.1 = true := c3851
    have c3851b1 : (!t3830.2.2.2.2.2.2.2.1) = false := by rw [c3851b0]; rfl
    try rw [c3851b1]
    clear c3851
    go_wp2_with (first | ((with_reducible refine gate_dst (N := 7) rfl ?_); refine box_on ?hg (N := 7) ?hd (cs := #[.int .i64 0, .int .i64 0, .int .i64 0, .int .i64 0, .int .i64 0, .int .i64 0, .int .i64 0]) (t := 32) ?hr ?_; (case hd => rfl); (case hg => rfl); (case hr => first | (go_simp; done) | (go_simp; rfl)); intro g3833 hg w3834 hbox hb; replace HS : Aside0 (Sep FF w [b7 g3757 g3759 a3767 a3768 a3769 a3770, b6 g3759 A3762 l3761.length n3764 t3830.2.2.2.2.2.2.2.2, r5 A3762 l3761.length n3764 l3761, b16 g3833 0 0 0 0 0 0 0] w3834) := ⟨HS.out.box hg hbox hb⟩; clear hg hbox hb; have hc3836 : w3834.cell? ⟨g3833, 0, none⟩ = some (.int .i64 0) := blk_cellv (HS.out.at3) 0 rfl; have hz3837 : w3834.frozen? ⟨g3833, 0, none⟩ = false := blk_fz (HS.out.at3) 0; have hc3838 : w3834.cell? ⟨g3833, 1, none⟩ = some (.int .i64 0) := blk_cellv (HS.out.at3) 1 rfl; have hz3839 : w3834.frozen? ⟨g3833, 1, none⟩ = false := blk_fz (HS.out.at3) 1; have hc3840 : w3834.cell? ⟨g3833, 2, none⟩ = some (.int .i64 0) := blk_cellv (HS.out.at3) 2 rfl; have hz3841 : w3834.frozen? ⟨g3833, 2, none⟩ = false := blk_fz (HS.out.at3) 2; have hc3842 : w3834.cell? ⟨g3833, 3, none⟩ = some (.int .i64 0) := blk_cellv (HS.out.at3) 3 rfl; have hz3843 : w3834.frozen? ⟨g3833, 3, none⟩ = false := blk_fz (HS.out.at3) 3; have hc3844 : w3834.cell? ⟨g3833, 4, none⟩ = some (.int .i64 0) := blk_cellv (HS.out.at3) 4 rfl; have hz3845 : w3834.frozen? ⟨g3833, 4, none⟩ = false := blk_fz (HS.out.at3) 4; have hc3846 : w3834.cell? ⟨g3833, 5, none⟩ = some (.int .i64 0) := blk_cellv (HS.out.at3) 5 rfl; have hz3847 : w3834.frozen? ⟨g3833, 5, none⟩ = false := blk_fz (HS.out.at3) 5; have hc3848 : w3834.cell? ⟨g3833, 6, none⟩ = some (.int .i64 0) := blk_cellv (HS.out.at3) 6 rfl; have hz3849 : w3834.frozen? ⟨g3833, 6, none⟩ = false := blk_fz (HS.out.at3) 6) | ((with_reducible refine gate_store (t := 32) (p := 7) rfl ?_); refine store_event (w1 := (World.setCell (World.setCell (World.setCell (World.setCell (World.setCell (World.setCell (World.setCell w3834 ⟨g3833, 0, none⟩ (.int .i64 t3830.1)) ⟨g3833, 1, none⟩ (.int .i64 t3830.2.1)) ⟨g3833, 2, none⟩ (.int .i64 t3830.2.2.1)) ⟨g3833, 3, none⟩ (.int .i64 t3830.2.2.2.1)) ⟨g3833, 4, none⟩ (.int .i64 t3830.2.2.2.2.1)) ⟨g3833, 5, none⟩ (.int .i64 t3830.2.2.2.2.2.1)) ⟨g3833, 6, none⟩ (.int .i64 t3830.2.2.2.2.2.2.1))) rfl (t := 32) (p := 7) rfl rfl ?hr ?_; (case hr => first | (go_simp; done) | (go_simp; rfl)); intro w3850 hst; clear hc3836 hz3837 hc3838 hz3839 hc3840 hz3841 hc3842 hz3843 hc3844 hz3845 hc3846 hz3847 hc3848 hz3849; replace HS : Aside0 (Sep FF w [b7 g3757 g3759 a3767 a3768 a3769 a3770, b6 g3759 A3762 l3761.length n3764 t3830.2.2.2.2.2.2.2.2, r5 A3762 l3761.length n3764 l3761, b16 g3833 t3830.1 t3830.2.1 t3830.2.2.1 t3830.2.2.2.1 t3830.2.2.2.2.1 t3830.2.2.2.2.2.1 t3830.2.2.2.2.2.2.1] w3850) := ⟨by rw [hst]; exact HS.out.setAll (l1 := [b7 g3757 g3759 a3767 a3768 a3769 a3770, b6 g3759 A3762 l3761.length n3764 t3830.2.2.2.2.2.2.2.2, r5 A3762 l3761.length n3764 l3761]) (l2 := []) [.int .i64 t3830.1, .int .i64 t3830.2.1, .int .i64 t3830.2.2.1, .int .i64 t3830.2.2.2.1, .int .i64 t3830.2.2.2.2.1, .int .i64 t3830.2.2.2.2.2.1, .int .i64 t3830.2.2.2.2.2.2.1] rfl⟩; clear hst))
    obtain ⟨t3852, HA3853, H⟩ := bind_some H
    refine (tint_Parity.calls l3761 t3830.2.2.2.2.2.2.2.2 a3767 a3768 a3769 a3770 g3757 g3759 A3762 l3761.length n3764 t3852 _ ⟨HGl0.out.pass HS.out⟩ ⟨HS.out.begin⟩ HA3853).mono ?_
    rintro e_ w3854 ⟨rfl, hS⟩
    replace HS : Aside0 (Sep FF w [b7 g3757 g3759 a3767 a3768 a3769 a3770, b6 g3759 A3762 l3761.length n3764 t3852.2, r5 A3762 l3761.length n3764 l3761, b16 g3833 t3830.1 t3830.2.1 t3830.2.2.1 t3830.2.2.2.1 t3830.2.2.2.2.1 t3830.2.2.2.2.2.1 t3830.2.2.2.2.2.2.1] w3854) := ⟨HS.out.call hS⟩
    clear hS
    go_wp2_with fail
    replace HS : Aside0 (Sep FF w [b16 g3833 t3830.1 t3830.2.1 t3830.2.2.1 t3830.2.2.2.1 t3830.2.2.2.2.1 t3830.2.2.2.2.2.1 t3830.2.2.2.2.2.2.1, b7 g3757 g3759 a3767 a3768 a3769 a3770, b6 g3759 A3762 l3761.length n3764 t3852.2, r5 A3762 l3761.length n3764 l3761] w3854) := ⟨HS.out.front 3 (by simp)⟩
    obtain ⟨t3855, HA3856, H⟩ := bind_some H
    refine (tint_Paint_1.calls t3830.1 t3830.2.1 t3830.2.2.1 t3830.2.2.2.1 t3830.2.2.2.2.1 t3830.2.2.2.2.2.1 t3830.2.2.2.2.2.2.1 t3852.1 g3833 t3855 _ ⟨HGl0.out.pass HS.out⟩ ⟨HS.out.begin⟩ HA3856).mono ?_
    rintro e_ w3857 ⟨rfl, hS⟩
    replace HS : Aside0 (Sep FF w [b16 g3833 t3830.1 t3855 t3830.2.2.1 t3830.2.2.2.1 t3830.2.2.2.2.1 t3830.2.2.2.2.2.1 t3830.2.2.2.2.2.2.1, b7 g3757 g3759 a3767 a3768 a3769 a3770, b6 g3759 A3762 l3761.length n3764 t3852.2, r5 A3762 l3761.length n3764 l3761] w3857) := ⟨HS.out.call hS⟩
    clear hS
    have hc3858 : w3857.cell? ⟨g3833, 0, none⟩ = some (.int .i64 t3830.1) := blk_cellv (HS.out.at0) 0 rfl
    have hc3859 : w3857.cell? ⟨g3833, 1, none⟩ = some (.int .i64 t3855) := blk_cellv (HS.out.at0) 1 rfl
    have hc3860 : w3857.cell? ⟨g3833, 2, none⟩ = some (.int .i64 t3830.2.2.1) := blk_cellv (HS.out.at0) 2 rfl
    have hc3861 : w3857.cell? ⟨g3833, 3, none⟩ = some (.int .i64 t3830.2.2.2.1) := blk_cellv (HS.out.at0) 3 rfl
    have hc3862 : w3857.cell? ⟨g3833, 4, none⟩ = some (.int .i64 t3830.2.2.2.2.1) := blk_cellv (HS.out.at0) 4 rfl
    have hc3863 : w3857.cell? ⟨g3833, 5, none⟩ = some (.int .i64 t3830.2.2.2.2.2.1) := blk_cellv (HS.out.at0) 5 rfl
    have hc3864 : w3857.cell? ⟨g3833, 6, none⟩ = some (.int .i64 t3830.2.2.2.2.2.2.1) := blk_cellv (HS.out.at0) 6 rfl
    go_wp2_with fail
    clear hc3858 hc3859 hc3860 hc3861 hc3862 hc3863 hc3864
    obtain ⟨t3865, HA3866, H⟩ := bind_some H
    refine (tag_Pack.calls _ t3830.1 t3855 t3830.2.2.1 t3830.2.2.2.1 t3830.2.2.2.2.1 t3830.2.2.2.2.2.1 t3830.2.2.2.2.2.2.1 t3865 _ ⟨HGl0.out.pass (l := []) HS.out⟩ ⟨Sep.start _⟩ HA3866).mono ?_
    rintro e_ w3867 ⟨rfl, hS⟩
    replace HS : Aside0 (Sep FF w [b16 g3833 t3830.1 t3855 t3830.2.2.1 t3830.2.2.2.1 t3830.2.2.2.2.1 t3830.2.2.2.2.2.1 t3830.2.2.2.2.2.2.1, b7 g3757 g3759 a3767 a3768 a3769 a3770, b6 g3759 A3762 l3761.length n3764 t3852.2, r5 A3762 l3761.length n3764 l3761] w3867) := ⟨HS.out.call hS⟩
    clear hS
    by_cases c3868 : t3865.2 = 0
    · replace H := if_yes c3868 H
      have c3868b0 : (t3865.2 == 0) = true := beq_iff_eq.mpr c3868
      have c3868b1 : (t3865.2 != 0) = false := bne_eq_false_iff_eq.mpr c3868
      clear c3868
      replace HS : Aside0 (Sep FF w [b7 g3757 g3759 a3767 a3768 a3769 a3770, b6 g3759 A3762 l3761.length n3764 t3852.2, r5 A3762 l3761.length n3764 l3761] w3867) := ⟨HS.out.sub (.cons _ (.cons_cons _ (.cons_cons _ (.cons_cons _ .slnil))))⟩
      go_wp2_with fail
      obtain ⟨t3869, HA3870, H⟩ := bind_some H
      refine (ground_Ground_SetWord.calls l3761 t3852.2 a3767 a3768 a3769 a3770 (wrap64 (a3771 - 1)) 0 t3865.1 g3757 g3759 A3762 l3761.length n3764 t3869 _ ⟨HGl0.out.pass HS.out⟩ ⟨HS.out.begin⟩ HA3870).mono ?_
      rintro e_ w3871 ⟨rfl, hS⟩
      replace HS : Aside0 (Sep FF w [b7 g3757 g3759 a3767 a3768 a3769 a3770, b6 g3759 A3762 l3761.length n3764 t3869.2.1, r5 A3762 l3761.length n3764 t3869.2.2] w3871) := ⟨HS.out.call hS⟩
      clear hS
      go_wp2_with fail
      go_ret
      rw [← some_eq H]
      exact ⟨(by first | rfl | (simp [IntKind.wrap_u32]; done)), HS.out⟩
    · replace H := if_no c3868 H
      have c3868b0 : (t3865.2 == 0) = false := beq_eq_false_iff_ne.mpr c3868
      have c3868b1 : (t3865.2 != 0) = true := bne_iff_ne.mpr c3868
      clear c3868
      replace HS : Aside0 (Sep FF w [b7 g3757 g3759 a3767 a3768 a3769 a3770, b6 g3759 A3762 l3761.length n3764 t3852.2, r5 A3762 l3761.length n3764 l3761] w3867) := ⟨HS.out.sub (.cons _ (.cons_cons _ (.cons_cons _ (.cons_cons _ .slnil))))⟩
      go_wp2_with fail
      go_ret
      rw [← some_eq H]
      exact ⟨(by first | rfl | (simp [IntKind.wrap_u32]; done)), HS.out⟩
  · replace H := if_no c3851 H
    have c3851b0 : t3830.2.2.2.2.2.2.2.1 = false := by simpa using c3851
    have c3851b1 : (!t3830.2.2.2.2.2.2.2.1) = true := by rw [c3851b0]; rfl
    try rw [c3851b1]
    clear c3851
    go_wp2_with (first | ((with_reducible refine gate_dst (N := 7) rfl ?_); refine box_on ?hg (N := 7) ?hd (cs := #[.int .i64 0, .int .i64 0, .int .i64 0, .int .i64 0, .int .i64 0, .int .i64 0, .int .i64 0]) (t := 32) ?hr ?_; (case hd => rfl); (case hg => rfl); (case hr => first | (go_simp; done) | (go_simp; rfl)); intro g3833 hg w3834 hbox hb; replace HS : Aside0 (Sep FF w [b7 g3757 g3759 a3767 a3768 a3769 a3770, b6 g3759 A3762 l3761.length n3764 t3830.2.2.2.2.2.2.2.2, r5 A3762 l3761.length n3764 l3761, b16 g3833 0 0 0 0 0 0 0] w3834) := ⟨HS.out.box hg hbox hb⟩; clear hg hbox hb; have hc3836 : w3834.cell? ⟨g3833, 0, none⟩ = some (.int .i64 0) := blk_cellv (HS.out.at3) 0 rfl; have hz3837 : w3834.frozen? ⟨g3833, 0, none⟩ = false := blk_fz (HS.out.at3) 0; have hc3838 : w3834.cell? ⟨g3833, 1, none⟩ = some (.int .i64 0) := blk_cellv (HS.out.at3) 1 rfl; have hz3839 : w3834.frozen? ⟨g3833, 1, none⟩ = false := blk_fz (HS.out.at3) 1; have hc3840 : w3834.cell? ⟨g3833, 2, none⟩ = some (.int .i64 0) := blk_cellv (HS.out.at3) 2 rfl; have hz3841 : w3834.frozen? ⟨g3833, 2, none⟩ = false := blk_fz (HS.out.at3) 2; have hc3842 : w3834.cell? ⟨g3833, 3, none⟩ = some (.int .i64 0) := blk_cellv (HS.out.at3) 3 rfl; have hz3843 : w3834.frozen? ⟨g3833, 3, none⟩ = false := blk_fz (HS.out.at3) 3; have hc3844 : w3834.cell? ⟨g3833, 4, none⟩ = some (.int .i64 0) := blk_cellv (HS.out.at3) 4 rfl; have hz3845 : w3834.frozen? ⟨g3833, 4, none⟩ = false := blk_fz (HS.out.at3) 4; have hc3846 : w3834.cell? ⟨g3833, 5, none⟩ = some (.int .i64 0) := blk_cellv (HS.out.at3) 5 rfl; have hz3847 : w3834.frozen? ⟨g3833, 5, none⟩ = false := blk_fz (HS.out.at3) 5; have hc3848 : w3834.cell? ⟨g3833, 6, none⟩ = some (.int .i64 0) := blk_cellv (HS.out.at3) 6 rfl; have hz3849 : w3834.frozen? ⟨g3833, 6, none⟩ = false := blk_fz (HS.out.at3) 6) | ((with_reducible refine gate_store (t := 32) (p := 7) rfl ?_); refine store_event (w1 := (World.setCell (World.setCell (World.setCell (World.setCell (World.setCell (World.setCell (World.setCell w3834 ⟨g3833, 0, none⟩ (.int .i64 t3830.1)) ⟨g3833, 1, none⟩ (.int .i64 t3830.2.1)) ⟨g3833, 2, none⟩ (.int .i64 t3830.2.2.1)) ⟨g3833, 3, none⟩ (.int .i64 t3830.2.2.2.1)) ⟨g3833, 4, none⟩ (.int .i64 t3830.2.2.2.2.1)) ⟨g3833, 5, none⟩ (.int .i64 t3830.2.2.2.2.2.1)) ⟨g3833, 6, none⟩ (.int .i64 t3830.2.2.2.2.2.2.1))) rfl (t := 32) (p := 7) rfl rfl ?hr ?_; (case hr => first | (go_simp; done) | (go_simp; rfl)); intro w3850 hst; clear hc3836 hz3837 hc3838 hz3839 hc3840 hz3841 hc3842 hz3843 hc3844 hz3845 hc3846 hz3847 hc3848 hz3849; replace HS : Aside0 (Sep FF w [b7 g3757 g3759 a3767 a3768 a3769 a3770, b6 g3759 A3762 l3761.length n3764 t3830.2.2.2.2.2.2.2.2, r5 A3762 l3761.length n3764 l3761, b16 g3833 t3830.1 t3830.2.1 t3830.2.2.1 t3830.2.2.2.1 t3830.2.2.2.2.1 t3830.2.2.2.2.2.1 t3830.2.2.2.2.2.2.1] w3850) := ⟨by rw [hst]; exact HS.out.setAll (l1 := [b7 g3757 g3759 a3767 a3768 a3769 a3770, b6 g3759 A3762 l3761.length n3764 t3830.2.2.2.2.2.2.2.2, r5 A3762 l3761.length n3764 l3761]) (l2 := []) [.int .i64 t3830.1, .int .i64 t3830.2.1, .int .i64 t3830.2.2.1, .int .i64 t3830.2.2.2.1, .int .i64 t3830.2.2.2.2.1, .int .i64 t3830.2.2.2.2.2.1, .int .i64 t3830.2.2.2.2.2.2.1] rfl⟩; clear hst; replace HS : Aside0 (Sep FF w [b7 g3757 g3759 a3767 a3768 a3769 a3770, b6 g3759 A3762 l3761.length n3764 t3830.2.2.2.2.2.2.2.2, r5 A3762 l3761.length n3764 l3761] w3850) := ⟨HS.out.sub (.cons_cons _ (.cons_cons _ (.cons_cons _ (.cons _ .slnil))))⟩))
    go_ret
    rw [← some_eq H]
    exact ⟨(by first | rfl | (simp [IntKind.wrap_u32]; done)), HS.out⟩

set_option maxHeartbeats 30000000 in
set_option maxRecDepth 100000 in
theorem tint_Paint.calls (k : Nat) (l3745 : List Int) (a3750 : Int) (a3751 : Int) (a3752 : Int) (a3753 : Int) (a3754 : Int) (a3755 : Int) (g3741 : Nat) (g3743 : Nat) (A3746 : Option Addr) (m3747 : Nat) (n3748 : Nat) (r : Bool × Int × List Int) (w : World)  (HGl0 : Aside0 (Gl 0 #[.int .i64 0, .int .i64 0, .int .i64 0, .int .i64 0, .int .i64 0] (fps [b7 g3741 g3743 a3751 a3752 a3753 a3754, b6 g3743 A3746 m3747 n3748 a3750, r5 A3746 m3747 n3748 l3745]) w)) (HS : Aside0 (Sep (fps [b7 g3741 g3743 a3751 a3752 a3753 a3754, b6 g3743 A3746 m3747 n3748 a3750, r5 A3746 m3747 n3748 l3745]) w [b7 g3741 g3743 a3751 a3752 a3753 a3754, b6 g3743 A3746 m3747 n3748 a3750, r5 A3746 m3747 n3748 l3745] w)) (H : Aside0 (tint_Paint.f k l3745 a3750 a3751 a3752 a3753 a3754 a3755 = some r)) :
    Calls Tryd.prog 113 #[.pointer (some ⟨g3741, 0, none⟩), .int .i64 a3755] w fun e w' => e = .returned (.bool r.1) ∧ Sep (fps [b7 g3741 g3743 a3751 a3752 a3753 a3754, b6 g3743 A3746 m3747 n3748 a3750, r5 A3746 m3747 n3748 l3745]) w [b7 g3741 g3743 a3751 a3752 a3753 a3754, b6 g3743 A3746 m3747 n3748 r.2.1, r5 A3746 m3747 n3748 r.2.2] w' := by
  generalize (fps [b7 g3741 g3743 a3751 a3752 a3753 a3754, b6 g3743 A3746 m3747 n3748 a3750, r5 A3746 m3747 n3748 l3745]) = FF at HS HGl0 ⊢
  obtain rfl := (row_len (HS.out.at2)).symm
  unfold tint_Paint.f at H
  go_enter Tryd.func113, Tryd.ntmps113
  go_wp2_with fail
  obtain ⟨t3875, HA3876, H⟩ := bind_some H
  refine (tint_change_F141.calls _ l3745 a3750 a3751 a3752 a3753 a3754 a3755 g3741 g3743 A3746 l3745.length n3748 t3875 _ ⟨HGl0.out.pass HS.out⟩ ⟨HS.out.begin⟩ HA3876).mono ?_
  rintro e_ w3877 ⟨rfl, hS⟩
  replace HS : Aside0 (Sep FF w [b7 g3741 g3743 a3751 a3752 a3753 a3754, b6 g3743 A3746 l3745.length n3748 t3875.2.1, r5 A3746 l3745.length n3748 t3875.2.2] w3877) := ⟨HS.out.call hS⟩
  clear hS
  go_wp2_with fail
  go_ret
  rw [← some_eq H]
  exact ⟨(by first | rfl | (simp [IntKind.wrap_u32]; done)), HS.out⟩

set_option maxHeartbeats 30000000 in
set_option maxRecDepth 100000 in
theorem ring_marked.calls (l3903 : List Int) (a3908 : Int) (a3909 : Int) (a3910 : Int) (a3911 : Int) (a3912 : Int) (a3913 : Int) (a3914 : Int) (g3899 : Nat) (g3901 : Nat) (A3904 : Option Addr) (m3905 : Nat) (n3906 : Nat) (r : Int × Int × Int × Int × Int × Int × Int × Bool × Int) (w : World)  (HGl0 : Aside0 (Gl 0 #[.int .i64 0, .int .i64 0, .int .i64 0, .int .i64 0, .int .i64 0] (fps [b7 g3899 g3901 a3909 a3910 a3911 a3912, b6 g3901 A3904 m3905 n3906 a3908, r5 A3904 m3905 n3906 l3903]) w)) (HS : Aside0 (Sep (fps [b7 g3899 g3901 a3909 a3910 a3911 a3912, b6 g3901 A3904 m3905 n3906 a3908, r5 A3904 m3905 n3906 l3903]) w [b7 g3899 g3901 a3909 a3910 a3911 a3912, b6 g3901 A3904 m3905 n3906 a3908, r5 A3904 m3905 n3906 l3903] w)) (H : Aside0 (ring_marked.f l3903 a3908 a3909 a3910 a3911 a3912 a3913 a3914 = some r)) :
    Calls Tryd.prog 79 #[.pointer (some ⟨g3899, 0, none⟩), .int .i64 a3913, .int .i64 a3914] w fun e w' => e = .returned (.tuple #[.agg #[.int .i64 r.1, .int .i64 r.2.1, .int .i64 r.2.2.1, .int .i64 r.2.2.2.1, .int .i64 r.2.2.2.2.1, .int .i64 r.2.2.2.2.2.1, .int .i64 r.2.2.2.2.2.2.1], .bool r.2.2.2.2.2.2.2.1]) ∧ Sep (fps [b7 g3899 g3901 a3909 a3910 a3911 a3912, b6 g3901 A3904 m3905 n3906 a3908, r5 A3904 m3905 n3906 l3903]) w [b7 g3899 g3901 a3909 a3910 a3911 a3912, b6 g3901 A3904 m3905 n3906 r.2.2.2.2.2.2.2.2, r5 A3904 m3905 n3906 l3903] w' := by
  generalize (fps [b7 g3899 g3901 a3909 a3910 a3911 a3912, b6 g3901 A3904 m3905 n3906 a3908, r5 A3904 m3905 n3906 l3903]) = FF at HS HGl0 ⊢
  obtain rfl := (row_len (HS.out.at2)).symm
  unfold ring_marked.f at H
  go_enter Tryd.func79, Tryd.ntmps79
  by_cases c4020 : a3913 < 0
  · replace H := if_yes c4020 H
    have c4020b0 : decide (a3913 < 0) = true := decide_eq_true c4020
    clear c4020
    go_wp2_with (first | ((with_reducible refine gate_dst (N := 6) rfl ?_); refine box_on ?hg (N := 6) ?hd (cs := #[.int .i64 0, .int .i64 0, .int .i64 0, .int .i64 0, .int .i64 0, .int .i64 0, .int .i64 0]) (t := 32) ?hr ?_; (case hd => rfl); (case hg => rfl); (case hr => first | (go_simp; done) | (go_simp; rfl)); intro g4017 hg w4018 hbox hb; replace HS : Aside0 (Sep FF w [b7 g3899 g3901 a3909 a3910 a3911 a3912, b6 g3901 A3904 l3903.length n3906 a3908, r5 A3904 l3903.length n3906 l3903, b16 g4017 0 0 0 0 0 0 0] w4018) := ⟨HS.out.box hg hbox hb⟩; clear hg hbox hb; have hc4021 : w4018.cell? ⟨g4017, 0, none⟩ = some (.int .i64 0) := blk_cellv (HS.out.at3) 0 rfl; have hz4022 : w4018.frozen? ⟨g4017, 0, none⟩ = false := blk_fz (HS.out.at3) 0; have hc4023 : w4018.cell? ⟨g4017, 1, none⟩ = some (.int .i64 0) := blk_cellv (HS.out.at3) 1 rfl; have hz4024 : w4018.frozen? ⟨g4017, 1, none⟩ = false := blk_fz (HS.out.at3) 1; have hc4025 : w4018.cell? ⟨g4017, 2, none⟩ = some (.int .i64 0) := blk_cellv (HS.out.at3) 2 rfl; have hz4026 : w4018.frozen? ⟨g4017, 2, none⟩ = false := blk_fz (HS.out.at3) 2; have hc4027 : w4018.cell? ⟨g4017, 3, none⟩ = some (.int .i64 0) := blk_cellv (HS.out.at3) 3 rfl; have hz4028 : w4018.frozen? ⟨g4017, 3, none⟩ = false := blk_fz (HS.out.at3) 3; have hc4029 : w4018.cell? ⟨g4017, 4, none⟩ = some (.int .i64 0) := blk_cellv (HS.out.at3) 4 rfl; have hz4030 : w4018.frozen? ⟨g4017, 4, none⟩ = false := blk_fz (HS.out.at3) 4; have hc4031 : w4018.cell? ⟨g4017, 5, none⟩ = some (.int .i64 0) := blk_cellv (HS.out.at3) 5 rfl; have hz4032 : w4018.frozen? ⟨g4017, 5, none⟩ = false := blk_fz (HS.out.at3) 5; have hc4033 : w4018.cell? ⟨g4017, 6, none⟩ = some (.int .i64 0) := blk_cellv (HS.out.at3) 6 rfl; have hz4034 : w4018.frozen? ⟨g4017, 6, none⟩ = false := blk_fz (HS.out.at3) 6) | ((with_reducible refine gate_store (t := 32) (p := 6) rfl ?_); refine store_event (w1 := (World.setCell (World.setCell (World.setCell (World.setCell (World.setCell (World.setCell (World.setCell w4018 ⟨g4017, 0, none⟩ (.int .i64 0)) ⟨g4017, 1, none⟩ (.int .i64 0)) ⟨g4017, 2, none⟩ (.int .i64 0)) ⟨g4017, 3, none⟩ (.int .i64 0)) ⟨g4017, 4, none⟩ (.int .i64 0)) ⟨g4017, 5, none⟩ (.int .i64 0)) ⟨g4017, 6, none⟩ (.int .i64 0))) rfl (t := 32) (p := 6) rfl rfl ?hr ?_; (case hr => first | (go_simp; done) | (go_simp; rfl)); intro w4035 hst; clear hc4021 hz4022 hc4023 hz4024 hc4025 hz4026 hc4027 hz4028 hc4029 hz4030 hc4031 hz4032 hc4033 hz4034; replace HS : Aside0 (Sep FF w [b7 g3899 g3901 a3909 a3910 a3911 a3912, b6 g3901 A3904 l3903.length n3906 a3908, r5 A3904 l3903.length n3906 l3903, b16 g4017 0 0 0 0 0 0 0] w4035) := ⟨by rw [hst]; exact HS.out.setAll (l1 := [b7 g3899 g3901 a3909 a3910 a3911 a3912, b6 g3901 A3904 l3903.length n3906 a3908, r5 A3904 l3903.length n3906 l3903]) (l2 := []) [.int .i64 0, .int .i64 0, .int .i64 0, .int .i64 0, .int .i64 0, .int .i64 0, .int .i64 0] rfl⟩; clear hst))
    have hc4036 : w4035.cell? ⟨g4017, 0, none⟩ = some (.int .i64 0) := blk_cellv (HS.out.at3) 0 rfl
    have hc4037 : w4035.cell? ⟨g4017, 1, none⟩ = some (.int .i64 0) := blk_cellv (HS.out.at3) 1 rfl
    have hc4038 : w4035.cell? ⟨g4017, 2, none⟩ = some (.int .i64 0) := blk_cellv (HS.out.at3) 2 rfl
    have hc4039 : w4035.cell? ⟨g4017, 3, none⟩ = some (.int .i64 0) := blk_cellv (HS.out.at3) 3 rfl
    have hc4040 : w4035.cell? ⟨g4017, 4, none⟩ = some (.int .i64 0) := blk_cellv (HS.out.at3) 4 rfl
    have hc4041 : w4035.cell? ⟨g4017, 5, none⟩ = some (.int .i64 0) := blk_cellv (HS.out.at3) 5 rfl
    have hc4042 : w4035.cell? ⟨g4017, 6, none⟩ = some (.int .i64 0) := blk_cellv (HS.out.at3) 6 rfl
    refine bodyPost_ret (v := .tuple #[.agg #[.int .i64 0, .int .i64 0, .int .i64 0, .int .i64 0, .int .i64 0, .int .i64 0, .int .i64 0], .bool false]) (by simp [results, Tryd.results79, go_sem, hc4036, hc4037, hc4038, hc4039, hc4040, hc4041, hc4042]) rfl ?_
    rw [← some_eq H]
    exact ⟨(by first | rfl | (simp [IntKind.wrap_u32]; done)), HS.out.sub (.cons_cons _ (.cons_cons _ (.cons_cons _ (.cons _ .slnil))))⟩
  · replace H := if_no c4020 H
    have c4020b0 : decide (a3913 < 0) = false := decide_eq_false c4020
    clear c4020
    go_wp2_with (first | ((with_reducible refine gate_dst (N := 6) rfl ?_); refine box_on ?hg (N := 6) ?hd (cs := #[.int .i64 0, .int .i64 0, .int .i64 0, .int .i64 0, .int .i64 0, .int .i64 0, .int .i64 0]) (t := 32) ?hr ?_; (case hd => rfl); (case hg => rfl); (case hr => first | (go_simp; done) | (go_simp; rfl)); intro g4017 hg w4018 hbox hb; replace HS : Aside0 (Sep FF w [b7 g3899 g3901 a3909 a3910 a3911 a3912, b6 g3901 A3904 l3903.length n3906 a3908, r5 A3904 l3903.length n3906 l3903, b16 g4017 0 0 0 0 0 0 0] w4018) := ⟨HS.out.box hg hbox hb⟩; clear hg hbox hb))
    obtain ⟨t4043, HA4044, H⟩ := bind_some H
    refine (ground_Ground_Conf.calls l3903 a3908 a3909 a3910 a3911 a3912 g3899 g3901 A3904 l3903.length n3906 t4043 _ ⟨HGl0.out.pass HS.out⟩ ⟨HS.out.begin⟩ HA4044).mono ?_
    rintro e_ w4045 ⟨rfl, hS⟩
    replace HS : Aside0 (Sep FF w [b7 g3899 g3901 a3909 a3910 a3911 a3912, b6 g3901 A3904 l3903.length n3906 a3908, r5 A3904 l3903.length n3906 l3903, b16 g4017 0 0 0 0 0 0 0] w4045) := ⟨HS.out.call hS⟩
    clear hS
    by_cases c4047 : a3913 ≥ t4043.1
    · replace H := if_yes c4047 H
      have c4047b0 : decide (t4043.1 ≤ a3913) = true := decide_eq_true c4047
      clear c4047
      have fl4046 : ∀ w, (Instr.field 30 (.agg #[.int .i64 t4043.1, .int .i64 t4043.2.1, .int .i64 t4043.2.2.1, .int .i64 t4043.2.2.2]) 0).run Tryd.prog w = .ok (.int .i64 t4043.1) w := fun _ => by kernel_rfl
      have hc4048 : w4045.cell? ⟨g4017, 0, none⟩ = some (.int .i64 0) := blk_cellv (HS.out.at3) 0 rfl
      have hz4049 : w4045.frozen? ⟨g4017, 0, none⟩ = false := blk_fz (HS.out.at3) 0
      have hc4050 : w4045.cell? ⟨g4017, 1, none⟩ = some (.int .i64 0) := blk_cellv (HS.out.at3) 1 rfl
      have hz4051 : w4045.frozen? ⟨g4017, 1, none⟩ = false := blk_fz (HS.out.at3) 1
      have hc4052 : w4045.cell? ⟨g4017, 2, none⟩ = some (.int .i64 0) := blk_cellv (HS.out.at3) 2 rfl
      have hz4053 : w4045.frozen? ⟨g4017, 2, none⟩ = false := blk_fz (HS.out.at3) 2
      have hc4054 : w4045.cell? ⟨g4017, 3, none⟩ = some (.int .i64 0) := blk_cellv (HS.out.at3) 3 rfl
      have hz4055 : w4045.frozen? ⟨g4017, 3, none⟩ = false := blk_fz (HS.out.at3) 3
      have hc4056 : w4045.cell? ⟨g4017, 4, none⟩ = some (.int .i64 0) := blk_cellv (HS.out.at3) 4 rfl
      have hz4057 : w4045.frozen? ⟨g4017, 4, none⟩ = false := blk_fz (HS.out.at3) 4
      have hc4058 : w4045.cell? ⟨g4017, 5, none⟩ = some (.int .i64 0) := blk_cellv (HS.out.at3) 5 rfl
      have hz4059 : w4045.frozen? ⟨g4017, 5, none⟩ = false := blk_fz (HS.out.at3) 5
      have hc4060 : w4045.cell? ⟨g4017, 6, none⟩ = some (.int .i64 0) := blk_cellv (HS.out.at3) 6 rfl
      have hz4061 : w4045.frozen? ⟨g4017, 6, none⟩ = false := blk_fz (HS.out.at3) 6
      go_wp2_with (first | ((with_reducible refine gate_store (t := 32) (p := 6) rfl ?_); refine store_event (w1 := (World.setCell (World.setCell (World.setCell (World.setCell (World.setCell (World.setCell (World.setCell w4045 ⟨g4017, 0, none⟩ (.int .i64 0)) ⟨g4017, 1, none⟩ (.int .i64 0)) ⟨g4017, 2, none⟩ (.int .i64 0)) ⟨g4017, 3, none⟩ (.int .i64 0)) ⟨g4017, 4, none⟩ (.int .i64 0)) ⟨g4017, 5, none⟩ (.int .i64 0)) ⟨g4017, 6, none⟩ (.int .i64 0))) rfl (t := 32) (p := 6) rfl rfl ?hr ?_; (case hr => first | (go_simp; done) | (go_simp; rfl)); intro w4062 hst; clear fl4046 hc4048 hz4049 hc4050 hz4051 hc4052 hz4053 hc4054 hz4055 hc4056 hz4057 hc4058 hz4059 hc4060 hz4061; replace HS : Aside0 (Sep FF w [b7 g3899 g3901 a3909 a3910 a3911 a3912, b6 g3901 A3904 l3903.length n3906 a3908, r5 A3904 l3903.length n3906 l3903, b16 g4017 0 0 0 0 0 0 0] w4062) := ⟨by rw [hst]; exact HS.out.setAll (l1 := [b7 g3899 g3901 a3909 a3910 a3911 a3912, b6 g3901 A3904 l3903.length n3906 a3908, r5 A3904 l3903.length n3906 l3903]) (l2 := []) [.int .i64 0, .int .i64 0, .int .i64 0, .int .i64 0, .int .i64 0, .int .i64 0, .int .i64 0] rfl⟩; clear hst))
      have hc4063 : w4062.cell? ⟨g4017, 0, none⟩ = some (.int .i64 0) := blk_cellv (HS.out.at3) 0 rfl
      have hc4064 : w4062.cell? ⟨g4017, 1, none⟩ = some (.int .i64 0) := blk_cellv (HS.out.at3) 1 rfl
      have hc4065 : w4062.cell? ⟨g4017, 2, none⟩ = some (.int .i64 0) := blk_cellv (HS.out.at3) 2 rfl
      have hc4066 : w4062.cell? ⟨g4017, 3, none⟩ = some (.int .i64 0) := blk_cellv (HS.out.at3) 3 rfl
      have hc4067 : w4062.cell? ⟨g4017, 4, none⟩ = some (.int .i64 0) := blk_cellv (HS.out.at3) 4 rfl
      have hc4068 : w4062.cell? ⟨g4017, 5, none⟩ = some (.int .i64 0) := blk_cellv (HS.out.at3) 5 rfl
      have hc4069 : w4062.cell? ⟨g4017, 6, none⟩ = some (.int .i64 0) := blk_cellv (HS.out.at3) 6 rfl
      refine bodyPost_ret (v := .tuple #[.agg #[.int .i64 0, .int .i64 0, .int .i64 0, .int .i64 0, .int .i64 0, .int .i64 0, .int .i64 0], .bool false]) (by simp [results, Tryd.results79, go_sem, hc4063, hc4064, hc4065, hc4066, hc4067, hc4068, hc4069]) rfl ?_
      rw [← some_eq H]
      exact ⟨(by first | rfl | (simp [IntKind.wrap_u32]; done)), HS.out.sub (.cons_cons _ (.cons_cons _ (.cons_cons _ (.cons _ .slnil))))⟩
    · replace H := if_no c4047 H
      have c4047b0 : decide (t4043.1 ≤ a3913) = false := decide_eq_false c4047
      clear c4047
      have fl4046 : ∀ w, (Instr.field 30 (.agg #[.int .i64 t4043.1, .int .i64 t4043.2.1, .int .i64 t4043.2.2.1, .int .i64 t4043.2.2.2]) 0).run Tryd.prog w = .ok (.int .i64 t4043.1) w := fun _ => by kernel_rfl
      go_wp2_with fail
      clear fl4046
      obtain ⟨t4070, HA4071, H⟩ := bind_some H
      refine (ground_Ground_Word.calls l3903 a3908 a3909 a3910 a3911 a3912 a3913 0 g3899 g3901 A3904 l3903.length n3906 t4070 _ ⟨HGl0.out.pass HS.out⟩ ⟨HS.out.begin⟩ HA4071).mono ?_
      rintro e_ w4072 ⟨rfl, hS⟩
      replace HS : Aside0 (Sep FF w [b7 g3899 g3901 a3909 a3910 a3911 a3912, b6 g3901 A3904 l3903.length n3906 t4070.2, r5 A3904 l3903.length n3906 l3903, b16 g4017 0 0 0 0 0 0 0] w4072) := ⟨HS.out.call hS⟩
      clear hS
      go_wp2_with fail
      obtain ⟨t4073, HA4074, H⟩ := bind_some H
      refine (tag_Unpack.calls t4070.1 t4073 _ ⟨HGl0.out.pass (l := []) HS.out⟩ ⟨Sep.start _⟩ HA4074).mono ?_
      rintro e_ w4075 ⟨rfl, hS⟩
      replace HS : Aside0 (Sep FF w [b7 g3899 g3901 a3909 a3910 a3911 a3912, b6 g3901 A3904 l3903.length n3906 t4070.2, r5 A3904 l3903.length n3906 l3903, b16 g4017 0 0 0 0 0 0 0] w4075) := ⟨HS.out.call hS⟩
      clear hS
      go_wp2_with (first | ((with_reducible refine gate_dst (N := 8) rfl ?_); refine box_on ?hg (N := 8) ?hd (cs := #[.int .i64 0, .int .i64 0, .int .i64 0, .int .i64 0, .int .i64 0, .int .i64 0, .int .i64 0]) (t := 32) ?hr ?_; (case hd => rfl); (case hg => rfl); (case hr => first | (go_simp; done) | (go_simp; rfl)); intro g4076 hg w4077 hbox hb; replace HS : Aside0 (Sep FF w [b7 g3899 g3901 a3909 a3910 a3911 a3912, b6 g3901 A3904 l3903.length n3906 t4070.2, r5 A3904 l3903.length n3906 l3903, b16 g4017 0 0 0 0 0 0 0, b16 g4076 0 0 0 0 0 0 0] w4077) := ⟨HS.out.box hg hbox hb⟩; clear hg hbox hb; have hc4079 : w4077.cell? ⟨g4076, 0, none⟩ = some (.int .i64 0) := blk_cellv (HS.out.at4) 0 rfl; have hz4080 : w4077.frozen? ⟨g4076, 0, none⟩ = false := blk_fz (HS.out.at4) 0; have hc4081 : w4077.cell? ⟨g4076, 1, none⟩ = some (.int .i64 0) := blk_cellv (HS.out.at4) 1 rfl; have hz4082 : w4077.frozen? ⟨g4076, 1, none⟩ = false := blk_fz (HS.out.at4) 1; have hc4083 : w4077.cell? ⟨g4076, 2, none⟩ = some (.int .i64 0) := blk_cellv (HS.out.at4) 2 rfl; have hz4084 : w4077.frozen? ⟨g4076, 2, none⟩ = false := blk_fz (HS.out.at4) 2; have hc4085 : w4077.cell? ⟨g4076, 3, none⟩ = some (.int .i64 0) := blk_cellv (HS.out.at4) 3 rfl; have hz4086 : w4077.frozen? ⟨g4076, 3, none⟩ = false := blk_fz (HS.out.at4) 3; have hc4087 : w4077.cell? ⟨g4076, 4, none⟩ = some (.int .i64 0) := blk_cellv (HS.out.at4) 4 rfl; have hz4088 : w4077.frozen? ⟨g4076, 4, none⟩ = false := blk_fz (HS.out.at4) 4; have hc4089 : w4077.cell? ⟨g4076, 5, none⟩ = some (.int .i64 0) := blk_cellv (HS.out.at4) 5 rfl; have hz4090 : w4077.frozen? ⟨g4076, 5, none⟩ = false := blk_fz (HS.out.at4) 5; have hc4091 : w4077.cell? ⟨g4076, 6, none⟩ = some (.int .i64 0) := blk_cellv (HS.out.at4) 6 rfl; have hz4092 : w4077.frozen? ⟨g4076, 6, none⟩ = false := blk_fz (HS.out.at4) 6) | ((with_reducible refine gate_store (t := 32) (p := 8) rfl ?_); refine store_event (w1 := (World.setCell (World.setCell (World.setCell (World.setCell (World.setCell (World.setCell (World.setCell w4077 ⟨g4076, 0, none⟩ (.int .i64 t4073.1)) ⟨g4076, 1, none⟩ (.int .i64 t4073.2.1)) ⟨g4076, 2, none⟩ (.int .i64 t4073.2.2.1)) ⟨g4076, 3, none⟩ (.int .i64 t4073.2.2.2.1)) ⟨g4076, 4, none⟩ (.int .i64 t4073.2.2.2.2.1)) ⟨g4076, 5, none⟩ (.int .i64 t4073.2.2.2.2.2.1)) ⟨g4076, 6, none⟩ (.int .i64 t4073.2.2.2.2.2.2))) rfl (t := 32) (p := 8) rfl rfl ?hr ?_; (case hr => first | (go_simp; done) | (go_simp; rfl)); intro w4093 hst; clear hc4079 hz4080 hc4081 hz4082 hc4083 hz4084 hc4085 hz4086 hc4087 hz4088 hc4089 hz4090 hc4091 hz4092; replace HS : Aside0 (Sep FF w [b7 g3899 g3901 a3909 a3910 a3911 a3912, b6 g3901 A3904 l3903.length n3906 t4070.2, r5 A3904 l3903.length n3906 l3903, b16 g4017 0 0 0 0 0 0 0, b16 g4076 t4073.1 t4073.2.1 t4073.2.2.1 t4073.2.2.2.1 t4073.2.2.2.2.1 t4073.2.2.2.2.2.1 t4073.2.2.2.2.2.2] w4093) := ⟨by rw [hst]; exact HS.out.setAll (l1 := [b7 g3899 g3901 a3909 a3910 a3911 a3912, b6 g3901 A3904 l3903.length n3906 t4070.2, r5 A3904 l3903.length n3906 l3903, b16 g4017 0 0 0 0 0 0 0]) (l2 := []) [.int .i64 t4073.1, .int .i64 t4073.2.1, .int .i64 t4073.2.2.1, .int .i64 t4073.2.2.2.1, .int .i64 t4073.2.2.2.2.1, .int .i64 t4073.2.2.2.2.2.1, .int .i64 t4073.2.2.2.2.2.2] rfl⟩; clear hst))
      refine start_ (n := 17) (S := (fun w' => w'.cell? ⟨g4076, 0, none⟩ = some (.int .i64 t4073.1) ∧ w'.cell? ⟨g4076, 1, none⟩ = some (.int .i64 t4073.2.1) ∧ w'.cell? ⟨g4076, 2, none⟩ = some (.int .i64 t4073.2.2.1) ∧ w'.cell? ⟨g4076, 3, none⟩ = some (.int .i64 t4073.2.2.2.1) ∧ w'.cell? ⟨g4076, 4, none⟩ = some (.int .i64 t4073.2.2.2.2.1) ∧ w'.cell? ⟨g4076, 5, none⟩ = some (.int .i64 t4073.2.2.2.2.2.1) ∧ w'.cell? ⟨g4076, 6, none⟩ = some (.int .i64 t4073.2.2.2.2.2.2))) (ds := []) #[false, false, false, false, false, false, false, false, false, false, false, false, false, false, false, false, false] (by kernel_rfl) rfl rfl (⟨blk_cellv ((HS.out.drew).at4) 0 rfl, blk_cellv ((HS.out.drew).at4) 1 rfl, blk_cellv ((HS.out.drew).at4) 2 rfl, blk_cellv ((HS.out.drew).at4) 3 rfl, blk_cellv ((HS.out.drew).at4) 4 rfl, blk_cellv ((HS.out.drew).at4) 5 rfl, blk_cellv ((HS.out.drew).at4) 6 rfl⟩) (fun hHeld => ?_)
      have HS_ := Aside0.mk HS.out.drew
      clear HS
      generalize World.drew _ = w4095 at HS_ hHeld ⊢
      have HS := HS_
      clear HS_
      refine pure_ (i := 1) (N := some 28) (v := ?_) (a' := ?_) #[false, true, false, false, false, false, false, false, false, false, false, false, false, false, false, false, false] rfl rfl (by kernel_rfl) (fun _ _ _ h => h) (Or.inl ⟨by rfl, ?_⟩) ?_ ?_
      rotate_left
      · intro w'
        go_simp
        with_reducible rfl
      rotate_left
      · simp only [Act.put, List.setIfInBounds_toArray, List.set_cons_zero, List.set_cons_succ, i64_w, i32_w]
        rfl
      refine take_ (i := 0) (N := some 27) (v := ?_) (a' := ?_) #[true, true, false, false, false, false, false, false, false, false, false, false, false, false, false, false, false] rfl rfl (by kernel_rfl) (fun _ _ _ h => h) (Or.inl ⟨by rfl, ?_⟩) hHeld ?_ ?_
      rotate_left
      · rintro w' hS'
        obtain ⟨s0, s1, s2, s3, s4, s5, s6⟩ := hS'
        go_simp
        with_reducible rfl
      rotate_left
      · simp only [Act.put, List.setIfInBounds_toArray, List.set_cons_zero, List.set_cons_succ, i64_w, i32_w]
        rfl
      refine take_ (i := 2) (N := some 29) (v := ?_) (a' := ?_) #[true, true, true, false, false, false, false, false, false, false, false, false, false, false, false, false, false] rfl rfl (by kernel_rfl) (fun _ _ _ h => h) (Or.inl ⟨by rfl, ?_⟩) hHeld ?_ ?_
      rotate_left
      · rintro w' hS'
        obtain ⟨s0, s1, s2, s3, s4, s5, s6⟩ := hS'
        go_simp
        with_reducible rfl
      rotate_left
      · simp only [Act.put, List.setIfInBounds_toArray, List.set_cons_zero, List.set_cons_succ, i64_w, i32_w]
        rfl
      refine pure_ (i := 3) (N := some 30) (v := ?_) (a' := ?_) #[true, true, true, true, false, false, false, false, false, false, false, false, false, false, false, false, false] rfl rfl (by kernel_rfl) (fun _ _ _ h => h) (Or.inl ⟨by rfl, ?_⟩) ?_ ?_
      rotate_left
      · intro w'
        go_simp
        with_reducible rfl
      rotate_left
      · simp only [Act.put, List.setIfInBounds_toArray, List.set_cons_zero, List.set_cons_succ, i64_w, i32_w]
        rfl
      refine pure_ (i := 4) (N := some 31) (v := ?_) (a' := ?_) #[true, true, true, true, true, false, false, false, false, false, false, false, false, false, false, false, false] rfl rfl (by kernel_rfl) (fun _ _ _ h => h) (Or.inl ⟨by rfl, ?_⟩) ?_ ?_
      rotate_left
      · intro w'
        go_simp
        with_reducible rfl
      rotate_left
      · simp only [Act.put, List.setIfInBounds_toArray, List.set_cons_zero, List.set_cons_succ, i64_w, i32_w]
        rfl
      by_cases c4096 : t4073.1 = 1
      · replace H := if_yes c4096 H
        have c4096b0 : (t4073.1 == 1) = true := beq_iff_eq.mpr c4096
        have c4096b1 : (t4073.1 != 1) = false := bne_eq_false_iff_eq.mpr c4096
        clear c4096
        try simp only [c4096b0, Bool.not_true, Bool.not_false]
        refine pure_ (i := 5) (N := some 32) (v := undef) (a' := ?_) #[true, true, true, true, true, true, false, false, false, false, false, false, false, false, false, false, false] rfl rfl (by kernel_rfl) (fun _ _ _ h => h) (Or.inr ⟨by rfl, rfl⟩) ?_ ?_
        rotate_left
        · simp only [Act.put, List.setIfInBounds_toArray, List.set_cons_zero, List.set_cons_succ, i64_w, i32_w]
          rfl
        try simp only [c4096b0, Bool.not_true, Bool.not_false]
        refine pure_ (i := 6) (N := some 33) (v := undef) (a' := ?_) #[true, true, true, true, true, true, true, false, false, false, false, false, false, false, false, false, false] rfl rfl (by kernel_rfl) (fun _ _ _ h => h) (Or.inr ⟨by rfl, rfl⟩) ?_ ?_
        rotate_left
        · simp only [Act.put, List.setIfInBounds_toArray, List.set_cons_zero, List.set_cons_succ, i64_w, i32_w]
          rfl
        try simp only [c4096b0, Bool.not_true, Bool.not_false]
        refine pure_ (i := 7) (N := some 34) (v := undef) (a' := ?_) #[true, true, true, true, true, true, true, true, false, false, false, false, false, false, false, false, false] rfl rfl (by kernel_rfl) (fun _ _ _ h => h) (Or.inr ⟨by rfl, rfl⟩) ?_ ?_
        rotate_left
        · simp only [Act.put, List.setIfInBounds_toArray, List.set_cons_zero, List.set_cons_succ, i64_w, i32_w]
          rfl
        refine pure_ (i := 8) (N := some 35) (v := ?_) (a' := ?_) #[true, true, true, true, true, true, true, true, true, false, false, false, false, false, false, false, false] rfl rfl (by kernel_rfl) (fun _ _ _ h => h) (Or.inl ⟨by rfl, ?_⟩) ?_ ?_
        rotate_left
        · intro w'
          go_simp
          with_reducible rfl
        rotate_left
        · simp only [Act.put, List.setIfInBounds_toArray, List.set_cons_zero, List.set_cons_succ, i64_w, i32_w]
          rfl
        refine pure_ (i := 9) (N := some 36) (v := ?_) (a' := ?_) #[true, true, true, true, true, true, true, true, true, true, false, false, false, false, false, false, false] rfl rfl (by kernel_rfl) (fun _ _ _ h => h) (Or.inl ⟨by rfl, ?_⟩) ?_ ?_
        rotate_left
        · intro w'
          go_simp
          with_reducible rfl
        rotate_left
        · simp only [Act.put, List.setIfInBounds_toArray, List.set_cons_zero, List.set_cons_succ, i64_w, i32_w]
          rfl
        refine pure_ (i := 10) (N := some 37) (v := ?_) (a' := ?_) #[true, true, true, true, true, true, true, true, true, true, true, false, false, false, false, false, false] rfl rfl (by kernel_rfl) (fun _ _ _ h => h) (Or.inl ⟨by rfl, ?_⟩) ?_ ?_
        rotate_left
        · intro w'
          go_simp
          with_reducible rfl
        rotate_left
        · simp only [Act.put, List.setIfInBounds_toArray, List.set_cons_zero, List.set_cons_succ, i64_w, i32_w]
          rfl
        refine pure_ (i := 12) (N := some 39) (v := ?_) (a' := ?_) #[true, true, true, true, true, true, true, true, true, true, true, false, true, false, false, false, false] rfl rfl (by kernel_rfl) (fun _ _ _ h => h) (Or.inl ⟨by rfl, ?_⟩) ?_ ?_
        rotate_left
        · intro w'
          go_simp
          with_reducible rfl
        rotate_left
        · simp only [Act.put, List.setIfInBounds_toArray, List.set_cons_zero, List.set_cons_succ, i64_w, i32_w]
          rfl
        refine take_ (i := 11) (N := some 38) (v := ?_) (a' := ?_) #[true, true, true, true, true, true, true, true, true, true, true, true, true, false, false, false, false] rfl rfl (by kernel_rfl) (fun _ _ _ h => h) (Or.inl ⟨by rfl, ?_⟩) hHeld ?_ ?_
        rotate_left
        · rintro w' hS'
          obtain ⟨s0, s1, s2, s3, s4, s5, s6⟩ := hS'
          go_simp
          with_reducible rfl
        rotate_left
        · simp only [Act.put, List.setIfInBounds_toArray, List.set_cons_zero, List.set_cons_succ, i64_w, i32_w]
          rfl
        refine pure_ (i := 13) (N := some 40) (v := ?_) (a' := ?_) #[true, true, true, true, true, true, true, true, true, true, true, true, true, true, false, false, false] rfl rfl (by kernel_rfl) (fun _ _ _ h => h) (Or.inl ⟨by rfl, ?_⟩) ?_ ?_
        rotate_left
        · intro w'
          go_simp
          with_reducible rfl
        rotate_left
        · simp only [Act.put, List.setIfInBounds_toArray, List.set_cons_zero, List.set_cons_succ, i64_w, i32_w]
          rfl
        refine pure_ (i := 14) (N := some 41) (v := ?_) (a' := ?_) #[true, true, true, true, true, true, true, true, true, true, true, true, true, true, true, false, false] rfl rfl (by kernel_rfl) (fun _ _ _ h => h) (Or.inl ⟨by rfl, ?_⟩) ?_ ?_
        rotate_left
        · intro w'
          go_simp
          with_reducible rfl
        rotate_left
        · simp only [Act.put, List.setIfInBounds_toArray, List.set_cons_zero, List.set_cons_succ, i64_w, i32_w]
          rfl
        refine one_ (i := 15) (N := none) #[true, true, true, true, true, true, true, true, true, true, true, true, true, true, true, true, false] rfl rfl (by kernel_rfl) (by decide) (fun K hK => ?_)
        have hc4098 := blk_cellv (v := .int .i64 0) (HS.out.at3) 0 rfl
        have hz4099 := blk_fz (HS.out.at3) 0
        have hc4100 := blk_cellv (v := .int .i64 0) (HS.out.at3) 1 rfl
        have hz4101 := blk_fz (HS.out.at3) 1
        have hc4102 := blk_cellv (v := .int .i64 0) (HS.out.at3) 2 rfl
        have hz4103 := blk_fz (HS.out.at3) 2
        have hc4104 := blk_cellv (v := .int .i64 0) (HS.out.at3) 3 rfl
        have hz4105 := blk_fz (HS.out.at3) 3
        have hc4106 := blk_cellv (v := .int .i64 0) (HS.out.at3) 4 rfl
        have hz4107 := blk_fz (HS.out.at3) 4
        have hc4108 := blk_cellv (v := .int .i64 0) (HS.out.at3) 5 rfl
        have hz4109 := blk_fz (HS.out.at3) 5
        have hc4110 := blk_cellv (v := .int .i64 0) (HS.out.at3) 6 rfl
        have hz4111 := blk_fz (HS.out.at3) 6
        refine store_step (w1 := (World.setCell (World.setCell (World.setCell (World.setCell (World.setCell (World.setCell (World.setCell w4095 ⟨g4017, 0, none⟩ (.int .i64 t4073.1)) ⟨g4017, 1, none⟩ (.int .i64 t4073.2.1)) ⟨g4017, 2, none⟩ (.int .i64 t4073.2.2.1)) ⟨g4017, 3, none⟩ (.int .i64 t4073.2.2.2.1)) ⟨g4017, 4, none⟩ (.int .i64 t4073.2.2.2.2.1)) ⟨g4017, 5, none⟩ (.int .i64 t4073.2.2.2.2.2.1)) ⟨g4017, 6, none⟩ (.int .i64 t4073.2.2.2.2.2.2))) (by rfl) rfl ?hr ?_
        case hr => first | (go_simp; done) | (go_simp; rfl)
        clear hc4098 hz4099 hc4100 hz4101 hc4102 hz4103 hc4104 hz4105 hc4106 hz4107 hc4108 hz4109 hc4110 hz4111
        intro w4097 hst
        replace HS : Aside0 (Sep FF w [b7 g3899 g3901 a3909 a3910 a3911 a3912, b6 g3901 A3904 l3903.length n3906 t4070.2, r5 A3904 l3903.length n3906 l3903, b16 g4017 t4073.1 t4073.2.1 t4073.2.2.1 t4073.2.2.2.1 t4073.2.2.2.2.1 t4073.2.2.2.2.2.1 t4073.2.2.2.2.2.2, b16 g4076 t4073.1 t4073.2.1 t4073.2.2.1 t4073.2.2.2.1 t4073.2.2.2.2.1 t4073.2.2.2.2.2.1 t4073.2.2.2.2.2.2] w4097) := ⟨by rw [hst]; exact HS.out.setAll (l1 := [b7 g3899 g3901 a3909 a3910 a3911 a3912, b6 g3901 A3904 l3903.length n3906 t4070.2, r5 A3904 l3903.length n3906 l3903]) (l2 := [b16 g4076 t4073.1 t4073.2.1 t4073.2.2.1 t4073.2.2.2.1 t4073.2.2.2.2.1 t4073.2.2.2.2.2.1 t4073.2.2.2.2.2.2]) [.int .i64 t4073.1, .int .i64 t4073.2.1, .int .i64 t4073.2.2.1, .int .i64 t4073.2.2.2.1, .int .i64 t4073.2.2.2.2.1, .int .i64 t4073.2.2.2.2.2.1, .int .i64 t4073.2.2.2.2.2.2] rfl⟩
        clear hst
        refine hK.out _ _ (⟨blk_cellv (HS.out.at4) 0 rfl, blk_cellv (HS.out.at4) 1 rfl, blk_cellv (HS.out.at4) 2 rfl, blk_cellv (HS.out.at4) 3 rfl, blk_cellv (HS.out.at4) 4 rfl, blk_cellv (HS.out.at4) 5 rfl, blk_cellv (HS.out.at4) 6 rfl⟩) (fun hHeld => ?_)
        clear hK K
        refine pure_ (i := 16) (N := some 7) (v := ?_) (a' := ?_) #[true, true, true, true, true, true, true, true, true, true, true, true, true, true, true, true, true] rfl rfl (by kernel_rfl) (fun _ _ _ h => h) (Or.inl ⟨by rfl, ?_⟩) ?_ ?_
        rotate_left
        · intro w'
          go_simp
          with_reducible rfl
        rotate_left
        · simp only [Act.put, List.setIfInBounds_toArray, List.set_cons_zero, List.set_cons_succ, i64_w, i32_w]
          rfl
        refine done_ (by kernel_rfl) ?_
        replace HS : Aside0 (Sep FF w [b7 g3899 g3901 a3909 a3910 a3911 a3912, b6 g3901 A3904 l3903.length n3906 t4070.2, r5 A3904 l3903.length n3906 l3903, b16 g4017 t4073.1 t4073.2.1 t4073.2.2.1 t4073.2.2.2.1 t4073.2.2.2.2.1 t4073.2.2.2.2.2.1 t4073.2.2.2.2.2.2] w4097) := ⟨HS.out.sub (.cons_cons _ (.cons_cons _ (.cons_cons _ (.cons_cons _ (.cons _ .slnil)))))⟩
        go_wp2_with fail
        have hc4112 : w4097.cell? ⟨g4017, 0, none⟩ = some (.int .i64 t4073.1) := blk_cellv (HS.out.at3) 0 rfl
        have hc4113 : w4097.cell? ⟨g4017, 1, none⟩ = some (.int .i64 t4073.2.1) := blk_cellv (HS.out.at3) 1 rfl
        have hc4114 : w4097.cell? ⟨g4017, 2, none⟩ = some (.int .i64 t4073.2.2.1) := blk_cellv (HS.out.at3) 2 rfl
        have hc4115 : w4097.cell? ⟨g4017, 3, none⟩ = some (.int .i64 t4073.2.2.2.1) := blk_cellv (HS.out.at3) 3 rfl
        have hc4116 : w4097.cell? ⟨g4017, 4, none⟩ = some (.int .i64 t4073.2.2.2.2.1) := blk_cellv (HS.out.at3) 4 rfl
        have hc4117 : w4097.cell? ⟨g4017, 5, none⟩ = some (.int .i64 t4073.2.2.2.2.2.1) := blk_cellv (HS.out.at3) 5 rfl
        have hc4118 : w4097.cell? ⟨g4017, 6, none⟩ = some (.int .i64 t4073.2.2.2.2.2.2) := blk_cellv (HS.out.at3) 6 rfl
        refine bodyPost_ret (v := .tuple #[.agg #[.int .i64 t4073.1, .int .i64 t4073.2.1, .int .i64 t4073.2.2.1, .int .i64 t4073.2.2.2.1, .int .i64 t4073.2.2.2.2.1, .int .i64 t4073.2.2.2.2.2.1, .int .i64 t4073.2.2.2.2.2.2], .bool (t4073.2.2.2.2.2.1 == a3914)]) (by simp [results, Tryd.results79, go_sem, hc4112, hc4113, hc4114, hc4115, hc4116, hc4117, hc4118]) rfl ?_
        rw [← some_eq H]
        exact ⟨(by first | rfl | (simp [IntKind.wrap_u32]; done)), HS.out.sub (.cons_cons _ (.cons_cons _ (.cons_cons _ (.cons _ .slnil))))⟩
      · replace H := if_no c4096 H
        have c4096b0 : (t4073.1 == 1) = false := beq_eq_false_iff_ne.mpr c4096
        have c4096b1 : (t4073.1 != 1) = true := bne_iff_ne.mpr c4096
        clear c4096
        try simp only [c4096b0, Bool.not_true, Bool.not_false]
        refine pure_ (i := 5) (N := some 32) (v := ?_) (a' := ?_) #[true, true, true, true, true, true, false, false, false, false, false, false, false, false, false, false, false] rfl rfl (by kernel_rfl) (fun _ _ _ h => h) (Or.inl ⟨by rfl, ?_⟩) ?_ ?_
        rotate_left
        · intro w'
          go_simp
          with_reducible rfl
        rotate_left
        · simp only [Act.put, List.setIfInBounds_toArray, List.set_cons_zero, List.set_cons_succ, i64_w, i32_w]
          rfl
        try simp only [c4096b0, Bool.not_true, Bool.not_false]
        refine take_ (i := 6) (N := some 33) (v := ?_) (a' := ?_) #[true, true, true, true, true, true, true, false, false, false, false, false, false, false, false, false, false] rfl rfl (by kernel_rfl) (fun _ _ _ h => h) (Or.inl ⟨by rfl, ?_⟩) hHeld ?_ ?_
        rotate_left
        · rintro w' hS'
          obtain ⟨s0, s1, s2, s3, s4, s5, s6⟩ := hS'
          go_simp
          with_reducible rfl
        rotate_left
        · simp only [Act.put, List.setIfInBounds_toArray, List.set_cons_zero, List.set_cons_succ, i64_w, i32_w]
          rfl
        try simp only [c4096b0, Bool.not_true, Bool.not_false]
        refine pure_ (i := 7) (N := some 34) (v := ?_) (a' := ?_) #[true, true, true, true, true, true, true, true, false, false, false, false, false, false, false, false, false] rfl rfl (by kernel_rfl) (fun _ _ _ h => h) (Or.inl ⟨by rfl, ?_⟩) ?_ ?_
        rotate_left
        · intro w'
          go_simp
          with_reducible rfl
        rotate_left
        · simp only [Act.put, List.setIfInBounds_toArray, List.set_cons_zero, List.set_cons_succ, i64_w, i32_w]
          rfl
        refine pure_ (i := 8) (N := some 35) (v := ?_) (a' := ?_) #[true, true, true, true, true, true, true, true, true, false, false, false, false, false, false, false, false] rfl rfl (by kernel_rfl) (fun _ _ _ h => h) (Or.inl ⟨by rfl, ?_⟩) ?_ ?_
        rotate_left
        · intro w'
          go_simp
          with_reducible rfl
        rotate_left
        · simp only [Act.put, List.setIfInBounds_toArray, List.set_cons_zero, List.set_cons_succ, i64_w, i32_w]
          rfl
        refine pure_ (i := 9) (N := some 36) (v := ?_) (a' := ?_) #[true, true, true, true, true, true, true, true, true, true, false, false, false, false, false, false, false] rfl rfl (by kernel_rfl) (fun _ _ _ h => h) (Or.inl ⟨by rfl, ?_⟩) ?_ ?_
        rotate_left
        · intro w'
          go_simp
          with_reducible rfl
        rotate_left
        · simp only [Act.put, List.setIfInBounds_toArray, List.set_cons_zero, List.set_cons_succ, i64_w, i32_w]
          rfl
        by_cases c4119 : t4073.1 = 2
        · replace H := if_yes c4119 H
          have c4119b0 : (t4073.1 == 2) = true := beq_iff_eq.mpr c4119
          have c4119b1 : (t4073.1 != 2) = false := bne_eq_false_iff_eq.mpr c4119
          clear c4119
          try simp only [c4119b0, Bool.not_true, Bool.not_false]
          refine pure_ (i := 10) (N := some 37) (v := ?_) (a' := ?_) #[true, true, true, true, true, true, true, true, true, true, true, false, false, false, false, false, false] rfl rfl (by kernel_rfl) (fun _ _ _ h => h) (Or.inl ⟨by rfl, ?_⟩) ?_ ?_
          rotate_left
          · intro w'
            go_simp
            with_reducible rfl
          rotate_left
          · simp only [Act.put, List.setIfInBounds_toArray, List.set_cons_zero, List.set_cons_succ, i64_w, i32_w]
            rfl
          try simp only [c4119b0, Bool.not_true, Bool.not_false]
          refine pure_ (i := 12) (N := some 39) (v := ?_) (a' := ?_) #[true, true, true, true, true, true, true, true, true, true, true, false, true, false, false, false, false] rfl rfl (by kernel_rfl) (fun _ _ _ h => h) (Or.inl ⟨by rfl, ?_⟩) ?_ ?_
          rotate_left
          · intro w'
            go_simp
            with_reducible rfl
          rotate_left
          · simp only [Act.put, List.setIfInBounds_toArray, List.set_cons_zero, List.set_cons_succ, i64_w, i32_w]
            rfl
          try simp only [c4119b0, Bool.not_true, Bool.not_false]
          refine take_ (i := 11) (N := some 38) (v := ?_) (a' := ?_) #[true, true, true, true, true, true, true, true, true, true, true, true, true, false, false, false, false] rfl rfl (by kernel_rfl) (fun _ _ _ h => h) (Or.inl ⟨by rfl, ?_⟩) hHeld ?_ ?_
          rotate_left
          · rintro w' hS'
            obtain ⟨s0, s1, s2, s3, s4, s5, s6⟩ := hS'
            go_simp
            with_reducible rfl
          rotate_left
          · simp only [Act.put, List.setIfInBounds_toArray, List.set_cons_zero, List.set_cons_succ, i64_w, i32_w]
            rfl
          try simp only [c4119b0, Bool.not_true, Bool.not_false]
          refine pure_ (i := 13) (N := some 40) (v := ?_) (a' := ?_) #[true, true, true, true, true, true, true, true, true, true, true, true, true, true, false, false, false] rfl rfl (by kernel_rfl) (fun _ _ _ h => h) (Or.inl ⟨by rfl, ?_⟩) ?_ ?_
          rotate_left
          · intro w'
            go_simp
            with_reducible rfl
          rotate_left
          · simp only [Act.put, List.setIfInBounds_toArray, List.set_cons_zero, List.set_cons_succ, i64_w, i32_w]
            rfl
          refine pure_ (i := 14) (N := some 41) (v := ?_) (a' := ?_) #[true, true, true, true, true, true, true, true, true, true, true, true, true, true, true, false, false] rfl rfl (by kernel_rfl) (fun _ _ _ h => h) (Or.inl ⟨by rfl, ?_⟩) ?_ ?_
          rotate_left
          · intro w'
            go_simp
            with_reducible rfl
          rotate_left
          · simp only [Act.put, List.setIfInBounds_toArray, List.set_cons_zero, List.set_cons_succ, i64_w, i32_w]
            rfl
          refine one_ (i := 15) (N := none) #[true, true, true, true, true, true, true, true, true, true, true, true, true, true, true, true, false] rfl rfl (by kernel_rfl) (by decide) (fun K hK => ?_)
          have hc4121 := blk_cellv (v := .int .i64 0) (HS.out.at3) 0 rfl
          have hz4122 := blk_fz (HS.out.at3) 0
          have hc4123 := blk_cellv (v := .int .i64 0) (HS.out.at3) 1 rfl
          have hz4124 := blk_fz (HS.out.at3) 1
          have hc4125 := blk_cellv (v := .int .i64 0) (HS.out.at3) 2 rfl
          have hz4126 := blk_fz (HS.out.at3) 2
          have hc4127 := blk_cellv (v := .int .i64 0) (HS.out.at3) 3 rfl
          have hz4128 := blk_fz (HS.out.at3) 3
          have hc4129 := blk_cellv (v := .int .i64 0) (HS.out.at3) 4 rfl
          have hz4130 := blk_fz (HS.out.at3) 4
          have hc4131 := blk_cellv (v := .int .i64 0) (HS.out.at3) 5 rfl
          have hz4132 := blk_fz (HS.out.at3) 5
          have hc4133 := blk_cellv (v := .int .i64 0) (HS.out.at3) 6 rfl
          have hz4134 := blk_fz (HS.out.at3) 6
          refine store_step (w1 := (World.setCell (World.setCell (World.setCell (World.setCell (World.setCell (World.setCell (World.setCell w4095 ⟨g4017, 0, none⟩ (.int .i64 t4073.1)) ⟨g4017, 1, none⟩ (.int .i64 t4073.2.1)) ⟨g4017, 2, none⟩ (.int .i64 t4073.2.2.1)) ⟨g4017, 3, none⟩ (.int .i64 t4073.2.2.2.1)) ⟨g4017, 4, none⟩ (.int .i64 t4073.2.2.2.2.1)) ⟨g4017, 5, none⟩ (.int .i64 t4073.2.2.2.2.2.1)) ⟨g4017, 6, none⟩ (.int .i64 t4073.2.2.2.2.2.2))) (by rfl) rfl ?hr ?_
          case hr => first | (go_simp; done) | (go_simp; rfl)
          clear hc4121 hz4122 hc4123 hz4124 hc4125 hz4126 hc4127 hz4128 hc4129 hz4130 hc4131 hz4132 hc4133 hz4134
          intro w4120 hst
          replace HS : Aside0 (Sep FF w [b7 g3899 g3901 a3909 a3910 a3911 a3912, b6 g3901 A3904 l3903.length n3906 t4070.2, r5 A3904 l3903.length n3906 l3903, b16 g4017 t4073.1 t4073.2.1 t4073.2.2.1 t4073.2.2.2.1 t4073.2.2.2.2.1 t4073.2.2.2.2.2.1 t4073.2.2.2.2.2.2, b16 g4076 t4073.1 t4073.2.1 t4073.2.2.1 t4073.2.2.2.1 t4073.2.2.2.2.1 t4073.2.2.2.2.2.1 t4073.2.2.2.2.2.2] w4120) := ⟨by rw [hst]; exact HS.out.setAll (l1 := [b7 g3899 g3901 a3909 a3910 a3911 a3912, b6 g3901 A3904 l3903.length n3906 t4070.2, r5 A3904 l3903.length n3906 l3903]) (l2 := [b16 g4076 t4073.1 t4073.2.1 t4073.2.2.1 t4073.2.2.2.1 t4073.2.2.2.2.1 t4073.2.2.2.2.2.1 t4073.2.2.2.2.2.2]) [.int .i64 t4073.1, .int .i64 t4073.2.1, .int .i64 t4073.2.2.1, .int .i64 t4073.2.2.2.1, .int .i64 t4073.2.2.2.2.1, .int .i64 t4073.2.2.2.2.2.1, .int .i64 t4073.2.2.2.2.2.2] rfl⟩
          clear hst
          refine hK.out _ _ (⟨blk_cellv (HS.out.at4) 0 rfl, blk_cellv (HS.out.at4) 1 rfl, blk_cellv (HS.out.at4) 2 rfl, blk_cellv (HS.out.at4) 3 rfl, blk_cellv (HS.out.at4) 4 rfl, blk_cellv (HS.out.at4) 5 rfl, blk_cellv (HS.out.at4) 6 rfl⟩) (fun hHeld => ?_)
          clear hK K
          refine pure_ (i := 16) (N := some 7) (v := ?_) (a' := ?_) #[true, true, true, true, true, true, true, true, true, true, true, true, true, true, true, true, true] rfl rfl (by kernel_rfl) (fun _ _ _ h => h) (Or.inl ⟨by rfl, ?_⟩) ?_ ?_
          rotate_left
          · intro w'
            go_simp
            with_reducible rfl
          rotate_left
          · simp only [Act.put, List.setIfInBounds_toArray, List.set_cons_zero, List.set_cons_succ, i64_w, i32_w]
            rfl
          refine done_ (by kernel_rfl) ?_
          replace HS : Aside0 (Sep FF w [b7 g3899 g3901 a3909 a3910 a3911 a3912, b6 g3901 A3904 l3903.length n3906 t4070.2, r5 A3904 l3903.length n3906 l3903, b16 g4017 t4073.1 t4073.2.1 t4073.2.2.1 t4073.2.2.2.1 t4073.2.2.2.2.1 t4073.2.2.2.2.2.1 t4073.2.2.2.2.2.2] w4120) := ⟨HS.out.sub (.cons_cons _ (.cons_cons _ (.cons_cons _ (.cons_cons _ (.cons _ .slnil)))))⟩
          go_wp2_with fail
          have hc4135 : w4120.cell? ⟨g4017, 0, none⟩ = some (.int .i64 t4073.1) := blk_cellv (HS.out.at3) 0 rfl
          have hc4136 : w4120.cell? ⟨g4017, 1, none⟩ = some (.int .i64 t4073.2.1) := blk_cellv (HS.out.at3) 1 rfl
          have hc4137 : w4120.cell? ⟨g4017, 2, none⟩ = some (.int .i64 t4073.2.2.1) := blk_cellv (HS.out.at3) 2 rfl
          have hc4138 : w4120.cell? ⟨g4017, 3, none⟩ = some (.int .i64 t4073.2.2.2.1) := blk_cellv (HS.out.at3) 3 rfl
          have hc4139 : w4120.cell? ⟨g4017, 4, none⟩ = some (.int .i64 t4073.2.2.2.2.1) := blk_cellv (HS.out.at3) 4 rfl
          have hc4140 : w4120.cell? ⟨g4017, 5, none⟩ = some (.int .i64 t4073.2.2.2.2.2.1) := blk_cellv (HS.out.at3) 5 rfl
          have hc4141 : w4120.cell? ⟨g4017, 6, none⟩ = some (.int .i64 t4073.2.2.2.2.2.2) := blk_cellv (HS.out.at3) 6 rfl
          refine bodyPost_ret (v := .tuple #[.agg #[.int .i64 t4073.1, .int .i64 t4073.2.1, .int .i64 t4073.2.2.1, .int .i64 t4073.2.2.2.1, .int .i64 t4073.2.2.2.2.1, .int .i64 t4073.2.2.2.2.2.1, .int .i64 t4073.2.2.2.2.2.2], .bool (t4073.2.2.2.2.2.1 == a3914)]) (by simp [results, Tryd.results79, go_sem, hc4135, hc4136, hc4137, hc4138, hc4139, hc4140, hc4141]) rfl ?_
          rw [← some_eq H]
          exact ⟨(by first | rfl | (simp [IntKind.wrap_u32]; done)), HS.out.sub (.cons_cons _ (.cons_cons _ (.cons_cons _ (.cons _ .slnil))))⟩
        · replace H := if_no c4119 H
          have c4119b0 : (t4073.1 == 2) = false := beq_eq_false_iff_ne.mpr c4119
          have c4119b1 : (t4073.1 != 2) = true := bne_iff_ne.mpr c4119
          clear c4119
          try simp only [c4119b0, Bool.not_true, Bool.not_false]
          refine pure_ (i := 10) (N := some 37) (v := undef) (a' := ?_) #[true, true, true, true, true, true, true, true, true, true, true, false, false, false, false, false, false] rfl rfl (by kernel_rfl) (fun _ _ _ h => h) (Or.inr ⟨by rfl, rfl⟩) ?_ ?_
          rotate_left
          · simp only [Act.put, List.setIfInBounds_toArray, List.set_cons_zero, List.set_cons_succ, i64_w, i32_w]
            rfl
          try simp only [c4119b0, Bool.not_true, Bool.not_false]
          refine pure_ (i := 11) (N := some 38) (v := undef) (a' := ?_) #[true, true, true, true, true, true, true, true, true, true, true, true, false, false, false, false, false] rfl rfl (by kernel_rfl) (fun _ _ _ h => h) (Or.inr ⟨by rfl, rfl⟩) ?_ ?_
          rotate_left
          · simp only [Act.put, List.setIfInBounds_toArray, List.set_cons_zero, List.set_cons_succ, i64_w, i32_w]
            rfl
          try simp only [c4119b0, Bool.not_true, Bool.not_false]
          refine pure_ (i := 12) (N := some 39) (v := undef) (a' := ?_) #[true, true, true, true, true, true, true, true, true, true, true, true, true, false, false, false, false] rfl rfl (by kernel_rfl) (fun _ _ _ h => h) (Or.inr ⟨by rfl, rfl⟩) ?_ ?_
          rotate_left
          · simp only [Act.put, List.setIfInBounds_toArray, List.set_cons_zero, List.set_cons_succ, i64_w, i32_w]
            rfl
          try simp only [c4119b0, Bool.not_true, Bool.not_false]
          refine pure_ (i := 13) (N := some 40) (v := undef) (a' := ?_) #[true, true, true, true, true, true, true, true, true, true, true, true, true, true, false, false, false] rfl rfl (by kernel_rfl) (fun _ _ _ h => h) (Or.inr ⟨by rfl, rfl⟩) ?_ ?_
          rotate_left
          · simp only [Act.put, List.setIfInBounds_toArray, List.set_cons_zero, List.set_cons_succ, i64_w, i32_w]
            rfl
          refine pure_ (i := 14) (N := some 41) (v := ?_) (a' := ?_) #[true, true, true, true, true, true, true, true, true, true, true, true, true, true, true, false, false] rfl rfl (by kernel_rfl) (fun _ _ _ h => h) (Or.inl ⟨by rfl, ?_⟩) ?_ ?_
          rotate_left
          · intro w'
            go_simp
            with_reducible rfl
          rotate_left
          · simp only [Act.put, List.setIfInBounds_toArray, List.set_cons_zero, List.set_cons_succ, i64_w, i32_w]
            rfl
          refine one_ (i := 15) (N := none) #[true, true, true, true, true, true, true, true, true, true, true, true, true, true, true, true, false] rfl rfl (by kernel_rfl) (by decide) (fun K hK => ?_)
          have hc4143 := blk_cellv (v := .int .i64 0) (HS.out.at3) 0 rfl
          have hz4144 := blk_fz (HS.out.at3) 0
          have hc4145 := blk_cellv (v := .int .i64 0) (HS.out.at3) 1 rfl
          have hz4146 := blk_fz (HS.out.at3) 1
          have hc4147 := blk_cellv (v := .int .i64 0) (HS.out.at3) 2 rfl
          have hz4148 := blk_fz (HS.out.at3) 2
          have hc4149 := blk_cellv (v := .int .i64 0) (HS.out.at3) 3 rfl
          have hz4150 := blk_fz (HS.out.at3) 3
          have hc4151 := blk_cellv (v := .int .i64 0) (HS.out.at3) 4 rfl
          have hz4152 := blk_fz (HS.out.at3) 4
          have hc4153 := blk_cellv (v := .int .i64 0) (HS.out.at3) 5 rfl
          have hz4154 := blk_fz (HS.out.at3) 5
          have hc4155 := blk_cellv (v := .int .i64 0) (HS.out.at3) 6 rfl
          have hz4156 := blk_fz (HS.out.at3) 6
          refine store_step (w1 := (World.setCell (World.setCell (World.setCell (World.setCell (World.setCell (World.setCell (World.setCell w4095 ⟨g4017, 0, none⟩ (.int .i64 t4073.1)) ⟨g4017, 1, none⟩ (.int .i64 t4073.2.1)) ⟨g4017, 2, none⟩ (.int .i64 t4073.2.2.1)) ⟨g4017, 3, none⟩ (.int .i64 t4073.2.2.2.1)) ⟨g4017, 4, none⟩ (.int .i64 t4073.2.2.2.2.1)) ⟨g4017, 5, none⟩ (.int .i64 t4073.2.2.2.2.2.1)) ⟨g4017, 6, none⟩ (.int .i64 t4073.2.2.2.2.2.2))) (by rfl) rfl ?hr ?_
          case hr => first | (go_simp; done) | (go_simp; rfl)
          clear hc4143 hz4144 hc4145 hz4146 hc4147 hz4148 hc4149 hz4150 hc4151 hz4152 hc4153 hz4154 hc4155 hz4156
          intro w4142 hst
          replace HS : Aside0 (Sep FF w [b7 g3899 g3901 a3909 a3910 a3911 a3912, b6 g3901 A3904 l3903.length n3906 t4070.2, r5 A3904 l3903.length n3906 l3903, b16 g4017 t4073.1 t4073.2.1 t4073.2.2.1 t4073.2.2.2.1 t4073.2.2.2.2.1 t4073.2.2.2.2.2.1 t4073.2.2.2.2.2.2, b16 g4076 t4073.1 t4073.2.1 t4073.2.2.1 t4073.2.2.2.1 t4073.2.2.2.2.1 t4073.2.2.2.2.2.1 t4073.2.2.2.2.2.2] w4142) := ⟨by rw [hst]; exact HS.out.setAll (l1 := [b7 g3899 g3901 a3909 a3910 a3911 a3912, b6 g3901 A3904 l3903.length n3906 t4070.2, r5 A3904 l3903.length n3906 l3903]) (l2 := [b16 g4076 t4073.1 t4073.2.1 t4073.2.2.1 t4073.2.2.2.1 t4073.2.2.2.2.1 t4073.2.2.2.2.2.1 t4073.2.2.2.2.2.2]) [.int .i64 t4073.1, .int .i64 t4073.2.1, .int .i64 t4073.2.2.1, .int .i64 t4073.2.2.2.1, .int .i64 t4073.2.2.2.2.1, .int .i64 t4073.2.2.2.2.2.1, .int .i64 t4073.2.2.2.2.2.2] rfl⟩
          clear hst
          refine hK.out _ _ (⟨blk_cellv (HS.out.at4) 0 rfl, blk_cellv (HS.out.at4) 1 rfl, blk_cellv (HS.out.at4) 2 rfl, blk_cellv (HS.out.at4) 3 rfl, blk_cellv (HS.out.at4) 4 rfl, blk_cellv (HS.out.at4) 5 rfl, blk_cellv (HS.out.at4) 6 rfl⟩) (fun hHeld => ?_)
          clear hK K
          refine pure_ (i := 16) (N := some 7) (v := ?_) (a' := ?_) #[true, true, true, true, true, true, true, true, true, true, true, true, true, true, true, true, true] rfl rfl (by kernel_rfl) (fun _ _ _ h => h) (Or.inl ⟨by rfl, ?_⟩) ?_ ?_
          rotate_left
          · intro w'
            go_simp
            with_reducible rfl
          rotate_left
          · simp only [Act.put, List.setIfInBounds_toArray, List.set_cons_zero, List.set_cons_succ, i64_w, i32_w]
            rfl
          refine done_ (by kernel_rfl) ?_
          replace HS : Aside0 (Sep FF w [b7 g3899 g3901 a3909 a3910 a3911 a3912, b6 g3901 A3904 l3903.length n3906 t4070.2, r5 A3904 l3903.length n3906 l3903, b16 g4017 t4073.1 t4073.2.1 t4073.2.2.1 t4073.2.2.2.1 t4073.2.2.2.2.1 t4073.2.2.2.2.2.1 t4073.2.2.2.2.2.2] w4142) := ⟨HS.out.sub (.cons_cons _ (.cons_cons _ (.cons_cons _ (.cons_cons _ (.cons _ .slnil)))))⟩
          go_wp2_with fail
          have hc4157 : w4142.cell? ⟨g4017, 0, none⟩ = some (.int .i64 t4073.1) := blk_cellv (HS.out.at3) 0 rfl
          have hc4158 : w4142.cell? ⟨g4017, 1, none⟩ = some (.int .i64 t4073.2.1) := blk_cellv (HS.out.at3) 1 rfl
          have hc4159 : w4142.cell? ⟨g4017, 2, none⟩ = some (.int .i64 t4073.2.2.1) := blk_cellv (HS.out.at3) 2 rfl
          have hc4160 : w4142.cell? ⟨g4017, 3, none⟩ = some (.int .i64 t4073.2.2.2.1) := blk_cellv (HS.out.at3) 3 rfl
          have hc4161 : w4142.cell? ⟨g4017, 4, none⟩ = some (.int .i64 t4073.2.2.2.2.1) := blk_cellv (HS.out.at3) 4 rfl
          have hc4162 : w4142.cell? ⟨g4017, 5, none⟩ = some (.int .i64 t4073.2.2.2.2.2.1) := blk_cellv (HS.out.at3) 5 rfl
          have hc4163 : w4142.cell? ⟨g4017, 6, none⟩ = some (.int .i64 t4073.2.2.2.2.2.2) := blk_cellv (HS.out.at3) 6 rfl
          refine bodyPost_ret (v := .tuple #[.agg #[.int .i64 t4073.1, .int .i64 t4073.2.1, .int .i64 t4073.2.2.1, .int .i64 t4073.2.2.2.1, .int .i64 t4073.2.2.2.2.1, .int .i64 t4073.2.2.2.2.2.1, .int .i64 t4073.2.2.2.2.2.2], .bool false]) (by simp [results, Tryd.results79, go_sem, hc4157, hc4158, hc4159, hc4160, hc4161, hc4162, hc4163]) rfl ?_
          rw [← some_eq H]
          exact ⟨(by first | rfl | (simp [IntKind.wrap_u32]; done)), HS.out.sub (.cons_cons _ (.cons_cons _ (.cons_cons _ (.cons _ .slnil))))⟩

set_option maxHeartbeats 30000000 in
set_option maxRecDepth 100000 in
theorem ring_mark.calls (k : Nat) (l4198 : List Int) (a4203 : Int) (a4204 : Int) (a4205 : Int) (a4206 : Int) (a4207 : Int) (a4208 : Int) (a4209 : Int) (a4210 : Int) (a4211 : Int) (a4212 : Int) (a4213 : Int) (a4214 : Int) (a4215 : Int) (a4216 : Int) (g4194 : Nat) (g4196 : Nat) (A4199 : Option Addr) (m4200 : Nat) (n4201 : Nat) (r : Int × List Int) (w : World)  (HGl0 : Aside0 (Gl 0 #[.int .i64 0, .int .i64 0, .int .i64 0, .int .i64 0, .int .i64 0] (fps [b7 g4194 g4196 a4204 a4205 a4206 a4207, b6 g4196 A4199 m4200 n4201 a4203, r5 A4199 m4200 n4201 l4198]) w)) (HS : Aside0 (Sep (fps [b7 g4194 g4196 a4204 a4205 a4206 a4207, b6 g4196 A4199 m4200 n4201 a4203, r5 A4199 m4200 n4201 l4198]) w [b7 g4194 g4196 a4204 a4205 a4206 a4207, b6 g4196 A4199 m4200 n4201 a4203, r5 A4199 m4200 n4201 l4198] w)) (H : Aside0 (ring_mark.f k l4198 a4203 a4204 a4205 a4206 a4207 a4208 a4209 a4210 a4211 a4212 a4213 a4214 a4215 a4216 = some r)) :
    Calls Tryd.prog 80 #[.pointer (some ⟨g4194, 0, none⟩), .int .i64 a4208, .agg #[.int .i64 a4209, .int .i64 a4210, .int .i64 a4211, .int .i64 a4212, .int .i64 a4213, .int .i64 a4214, .int .i64 a4215], .int .i64 a4216] w fun e w' => e = .returned (.tuple #[]) ∧ Sep (fps [b7 g4194 g4196 a4204 a4205 a4206 a4207, b6 g4196 A4199 m4200 n4201 a4203, r5 A4199 m4200 n4201 l4198]) w [b7 g4194 g4196 a4204 a4205 a4206 a4207, b6 g4196 A4199 m4200 n4201 r.1, r5 A4199 m4200 n4201 r.2] w' := by
  generalize (fps [b7 g4194 g4196 a4204 a4205 a4206 a4207, b6 g4196 A4199 m4200 n4201 a4203, r5 A4199 m4200 n4201 l4198]) = FF at HS HGl0 ⊢
  obtain rfl := (row_len (HS.out.at2)).symm
  unfold ring_mark.f at H
  go_enter Tryd.func80, Tryd.ntmps80
  go_wp2_with (first | ((with_reducible refine gate_dst (N := 6) rfl ?_); refine box_on ?hg (N := 6) ?hd (cs := #[.int .i64 a4209, .int .i64 a4210, .int .i64 a4211, .int .i64 a4212, .int .i64 a4213, .int .i64 a4214, .int .i64 a4215]) (t := 32) ?hr ?_; (case hd => rfl); (case hg => rfl); (case hr => first | (go_simp; done) | (go_simp; rfl)); intro g4237 hg w4238 hbox hb; replace HS : Aside0 (Sep FF w [b7 g4194 g4196 a4204 a4205 a4206 a4207, b6 g4196 A4199 l4198.length n4201 a4203, r5 A4199 l4198.length n4201 l4198, b16 g4237 a4209 a4210 a4211 a4212 a4213 a4214 a4215] w4238) := ⟨HS.out.box hg hbox hb⟩; clear hg hbox hb; have hc4240 : w4238.cell? ⟨g4237, 5, none⟩ = some (.int .i64 a4214) := blk_cellv (HS.out.at3) 5 rfl; have hz4241 : w4238.frozen? ⟨g4237, 5, none⟩ = false := blk_fz (HS.out.at3) 5) | ((with_reducible refine gate_store (t := 3) (p := 11) rfl ?_); refine store_event (w1 := (World.setCell w4238 ⟨g4237, 5, none⟩ (.int .i64 a4216))) rfl (t := 3) (p := 11) rfl rfl ?hr ?_; (case hr => first | (go_simp; done) | (go_simp; rfl)); intro w4242 hst; clear hc4240 hz4241; have hq0 : Sep FF w [b7 g4194 g4196 a4204 a4205 a4206 a4207, b6 g4196 A4199 l4198.length n4201 a4203, r5 A4199 l4198.length n4201 l4198, b16 g4237 a4209 a4210 a4211 a4212 a4213 a4216 a4215] (World.setCell w4238 ⟨g4237, 5, none⟩ (.int .i64 a4216)) := (HS.out).set1 (l1 := [b7 g4194 g4196 a4204 a4205 a4206 a4207, b6 g4196 A4199 l4198.length n4201 a4203, r5 A4199 l4198.length n4201 l4198]) (l2 := []) 5 (.int .i64 a4216); replace HS : Aside0 (Sep FF w [b7 g4194 g4196 a4204 a4205 a4206 a4207, b6 g4196 A4199 l4198.length n4201 a4203, r5 A4199 l4198.length n4201 l4198, b16 g4237 a4209 a4210 a4211 a4212 a4213 a4216 a4215] w4242) := ⟨by rw [hst]; exact hq0⟩; clear hq0; clear hst; have hc4243 : w4242.cell? ⟨g4237, 0, none⟩ = some (.int .i64 a4209) := blk_cellv (HS.out.at3) 0 rfl; have hc4244 : w4242.cell? ⟨g4237, 1, none⟩ = some (.int .i64 a4210) := blk_cellv (HS.out.at3) 1 rfl; have hc4245 : w4242.cell? ⟨g4237, 2, none⟩ = some (.int .i64 a4211) := blk_cellv (HS.out.at3) 2 rfl; have hc4246 : w4242.cell? ⟨g4237, 3, none⟩ = some (.int .i64 a4212) := blk_cellv (HS.out.at3) 3 rfl; have hc4247 : w4242.cell? ⟨g4237, 4, none⟩ = some (.int .i64 a4213) := blk_cellv (HS.out.at3) 4 rfl; have hc4248 : w4242.cell? ⟨g4237, 5, none⟩ = some (.int .i64 a4216) := blk_cellv (HS.out.at3) 5 rfl; have hc4249 : w4242.cell? ⟨g4237, 6, none⟩ = some (.int .i64 a4215) := blk_cellv (HS.out.at3) 6 rfl))
  clear hc4243 hc4244 hc4245 hc4246 hc4247 hc4248 hc4249
  obtain ⟨t4250, HA4251, H⟩ := bind_some H
  refine (tag_Pack.calls _ a4209 a4210 a4211 a4212 a4213 a4216 a4215 t4250 _ ⟨HGl0.out.pass (l := []) HS.out⟩ ⟨Sep.start _⟩ HA4251).mono ?_
  rintro e_ w4252 ⟨rfl, hS⟩
  replace HS : Aside0 (Sep FF w [b7 g4194 g4196 a4204 a4205 a4206 a4207, b6 g4196 A4199 l4198.length n4201 a4203, r5 A4199 l4198.length n4201 l4198, b16 g4237 a4209 a4210 a4211 a4212 a4213 a4216 a4215] w4252) := ⟨HS.out.call hS⟩
  clear hS
  by_cases c4253 : t4250.2 = 0
  · replace H := if_yes c4253 H
    have c4253b0 : (t4250.2 == 0) = true := beq_iff_eq.mpr c4253
    have c4253b1 : (t4250.2 != 0) = false := bne_eq_false_iff_eq.mpr c4253
    clear c4253
    replace HS : Aside0 (Sep FF w [b7 g4194 g4196 a4204 a4205 a4206 a4207, b6 g4196 A4199 l4198.length n4201 a4203, r5 A4199 l4198.length n4201 l4198] w4252) := ⟨HS.out.sub (.cons_cons _ (.cons_cons _ (.cons_cons _ (.cons _ .slnil))))⟩
    go_wp2_with fail
    obtain ⟨t4254, HA4255, H⟩ := bind_some H
    refine (ground_Ground_SetWord.calls l4198 a4203 a4204 a4205 a4206 a4207 a4208 0 t4250.1 g4194 g4196 A4199 l4198.length n4201 t4254 _ ⟨HGl0.out.pass HS.out⟩ ⟨HS.out.begin⟩ HA4255).mono ?_
    rintro e_ w4256 ⟨rfl, hS⟩
    replace HS : Aside0 (Sep FF w [b7 g4194 g4196 a4204 a4205 a4206 a4207, b6 g4196 A4199 l4198.length n4201 t4254.2.1, r5 A4199 l4198.length n4201 t4254.2.2] w4256) := ⟨HS.out.call hS⟩
    clear hS
    go_wp2_with fail
    first | go_end0 | refine bodyPost_ret (results_none rfl _ _ _) rfl ?_
    rw [← some_eq H]
    exact ⟨rfl, HS.out⟩
  · replace H := if_no c4253 H
    have c4253b0 : (t4250.2 == 0) = false := beq_eq_false_iff_ne.mpr c4253
    have c4253b1 : (t4250.2 != 0) = true := bne_iff_ne.mpr c4253
    clear c4253
    replace HS : Aside0 (Sep FF w [b7 g4194 g4196 a4204 a4205 a4206 a4207, b6 g4196 A4199 l4198.length n4201 a4203, r5 A4199 l4198.length n4201 l4198] w4252) := ⟨HS.out.sub (.cons_cons _ (.cons_cons _ (.cons_cons _ (.cons _ .slnil))))⟩
    go_wp2_with fail
    first | go_end0 | refine bodyPost_ret (results_none rfl _ _ _) rfl ?_
    rw [← some_eq H]
    exact ⟨rfl, HS.out⟩

set_option maxHeartbeats 30000000 in
set_option maxRecDepth 100000 in
theorem ring_link.calls (l4274 : List Int) (a4279 : Int) (a4280 : Int) (a4281 : Int) (a4282 : Int) (a4283 : Int) (a4284 : Int) (a4285 : Int) (a4286 : Int) (a4287 : Int) (g4270 : Nat) (g4272 : Nat) (A4275 : Option Addr) (m4276 : Nat) (n4277 : Nat) (r : Int × List Int) (w : World)  (HGl0 : Aside0 (Gl 0 #[.int .i64 0, .int .i64 0, .int .i64 0, .int .i64 0, .int .i64 0] (fps [b7 g4270 g4272 a4280 a4281 a4282 a4283, b6 g4272 A4275 m4276 n4277 a4279, r5 A4275 m4276 n4277 l4274]) w)) (HS : Aside0 (Sep (fps [b7 g4270 g4272 a4280 a4281 a4282 a4283, b6 g4272 A4275 m4276 n4277 a4279, r5 A4275 m4276 n4277 l4274]) w [b7 g4270 g4272 a4280 a4281 a4282 a4283, b6 g4272 A4275 m4276 n4277 a4279, r5 A4275 m4276 n4277 l4274] w)) (H : Aside0 (ring_link.f l4274 a4279 a4280 a4281 a4282 a4283 a4284 a4285 a4286 a4287 = some r)) :
    Calls Tryd.prog 82 #[.pointer (some ⟨g4270, 0, none⟩), .int .i64 a4284, .int .i64 a4285, .int .i64 a4286, .int .i64 a4287] w fun e w' => e = .returned (.tuple #[]) ∧ Sep (fps [b7 g4270 g4272 a4280 a4281 a4282 a4283, b6 g4272 A4275 m4276 n4277 a4279, r5 A4275 m4276 n4277 l4274]) w [b7 g4270 g4272 a4280 a4281 a4282 a4283, b6 g4272 A4275 m4276 n4277 r.1, r5 A4275 m4276 n4277 r.2] w' := by
  generalize (fps [b7 g4270 g4272 a4280 a4281 a4282 a4283, b6 g4272 A4275 m4276 n4277 a4279, r5 A4275 m4276 n4277 l4274]) = FF at HS HGl0 ⊢
  obtain rfl := (row_len (HS.out.at2)).symm
  unfold ring_link.f at H
  go_enter Tryd.func82, Tryd.ntmps82
  by_cases c4292 : a4284 = 0
  · replace H := if_yes c4292 H
    have c4292b0 : (a4284 == 0) = true := beq_iff_eq.mpr c4292
    have c4292b1 : (a4284 != 0) = false := bne_eq_false_iff_eq.mpr c4292
    clear c4292
    go_wp2_with fail
    obtain ⟨t4293, HA4294, H⟩ := bind_some H
    refine (ground_Ground_SetReg.calls l4274 a4279 a4280 a4281 a4282 a4283 a4286 a4287 g4270 g4272 A4275 l4274.length n4277 t4293 _ ⟨HGl0.out.pass HS.out⟩ ⟨HS.out.begin⟩ HA4294).mono ?_
    rintro e_ w4295 ⟨rfl, hS⟩
    replace HS : Aside0 (Sep FF w [b7 g4270 g4272 a4280 a4281 a4282 a4283, b6 g4272 A4275 l4274.length n4277 t4293.2.1, r5 A4275 l4274.length n4277 t4293.2.2] w4295) := ⟨HS.out.call hS⟩
    clear hS
    go_wp2_with fail
    first | go_end0 | refine bodyPost_ret (results_none rfl _ _ _) rfl ?_
    rw [← some_eq H]
    exact ⟨rfl, HS.out⟩
  · replace H := if_no c4292 H
    have c4292b0 : (a4284 == 0) = false := beq_eq_false_iff_ne.mpr c4292
    have c4292b1 : (a4284 != 0) = true := bne_iff_ne.mpr c4292
    clear c4292
    go_wp2_with fail
    obtain ⟨t4296, HA4297, H⟩ := bind_some H
    refine (ground_Ground_SetWord.calls l4274 a4279 a4280 a4281 a4282 a4283 (wrap64 (a4284 - 1)) a4285 ((a4287) % 4294967296) g4270 g4272 A4275 l4274.length n4277 t4296 _ ⟨HGl0.out.pass HS.out⟩ ⟨HS.out.begin⟩ HA4297).mono ?_
    rintro e_ w4298 ⟨rfl, hS⟩
    replace HS : Aside0 (Sep FF w [b7 g4270 g4272 a4280 a4281 a4282 a4283, b6 g4272 A4275 l4274.length n4277 t4296.2.1, r5 A4275 l4274.length n4277 t4296.2.2] w4298) := ⟨HS.out.call hS⟩
    clear hS
    go_wp2_with fail
    first | go_end0 | refine bodyPost_ret (results_none rfl _ _ _) rfl ?_
    rw [← some_eq H]
    exact ⟨rfl, HS.out⟩

set_option maxHeartbeats 30000000 in
set_option maxRecDepth 100000 in
theorem ring_Add.calls (k : Nat) (l3887 : List Int) (a3892 : Int) (a3893 : Int) (a3894 : Int) (a3895 : Int) (a3896 : Int) (a3897 : Int) (g3883 : Nat) (g3885 : Nat) (A3888 : Option Addr) (m3889 : Nat) (n3890 : Nat) (r : Bool × Int × List Int) (w : World)  (HGl0 : Aside0 (Gl 0 #[.int .i64 0, .int .i64 0, .int .i64 0, .int .i64 0, .int .i64 0] (fps [b7 g3883 g3885 a3893 a3894 a3895 a3896, b6 g3885 A3888 m3889 n3890 a3892, r5 A3888 m3889 n3890 l3887]) w)) (HS : Aside0 (Sep (fps [b7 g3883 g3885 a3893 a3894 a3895 a3896, b6 g3885 A3888 m3889 n3890 a3892, r5 A3888 m3889 n3890 l3887]) w [b7 g3883 g3885 a3893 a3894 a3895 a3896, b6 g3885 A3888 m3889 n3890 a3892, r5 A3888 m3889 n3890 l3887] w)) (H : Aside0 (ring_Add.f k l3887 a3892 a3893 a3894 a3895 a3896 a3897 = some r)) :
    Calls Tryd.prog 23 #[.pointer (some ⟨g3883, 0, none⟩), .int .i64 a3897] w fun e w' => e = .returned (.bool r.1) ∧ Sep (fps [b7 g3883 g3885 a3893 a3894 a3895 a3896, b6 g3885 A3888 m3889 n3890 a3892, r5 A3888 m3889 n3890 l3887]) w [b7 g3883 g3885 a3893 a3894 a3895 a3896, b6 g3885 A3888 m3889 n3890 r.2.1, r5 A3888 m3889 n3890 r.2.2] w' := by
  generalize (fps [b7 g3883 g3885 a3893 a3894 a3895 a3896, b6 g3885 A3888 m3889 n3890 a3892, r5 A3888 m3889 n3890 l3887]) = FF at HS HGl0 ⊢
  obtain rfl := (row_len (HS.out.at2)).symm
  unfold ring_Add.f at H
  go_enter Tryd.func23, Tryd.ntmps23
  go_wp2_with fail
  obtain ⟨t4311, HA4312, H⟩ := bind_some H
  refine (ring_marked.calls l3887 a3892 a3893 a3894 a3895 a3896 a3897 0 g3883 g3885 A3888 l3887.length n3890 t4311 _ ⟨HGl0.out.pass HS.out⟩ ⟨HS.out.begin⟩ HA4312).mono ?_
  rintro e_ w4313 ⟨rfl, hS⟩
  replace HS : Aside0 (Sep FF w [b7 g3883 g3885 a3893 a3894 a3895 a3896, b6 g3885 A3888 l3887.length n3890 t4311.2.2.2.2.2.2.2.2, r5 A3888 l3887.length n3890 l3887] w4313) := ⟨HS.out.call hS⟩
  clear hS
  by_cases c4332 : t4311.2.2.2.2.2.2.2.1 = true
  · replace H := if_yes c4332 H
    have c4332b0 : t4311.2.2.2.2.2.2.2.1 = true := c4332
    have c4332b1 : (!t4311.2.2.2.2.2.2.2.1) = false := by rw [c4332b0]; rfl
    try rw [c4332b1]
    clear c4332
    go_wp2_with (first | ((with_reducible refine gate_dst (N := 5) rfl ?_); refine box_on ?hg (N := 5) ?hd (cs := #[.int .i64 0, .int .i64 0, .int .i64 0, .int .i64 0, .int .i64 0, .int .i64 0, .int .i64 0]) (t := 32) ?hr ?_; (case hd => rfl); (case hg => rfl); (case hr => first | (go_simp; done) | (go_simp; rfl)); intro g4314 hg w4315 hbox hb; replace HS : Aside0 (Sep FF w [b7 g3883 g3885 a3893 a3894 a3895 a3896, b6 g3885 A3888 l3887.length n3890 t4311.2.2.2.2.2.2.2.2, r5 A3888 l3887.length n3890 l3887, b16 g4314 0 0 0 0 0 0 0] w4315) := ⟨HS.out.box hg hbox hb⟩; clear hg hbox hb; have hc4317 : w4315.cell? ⟨g4314, 0, none⟩ = some (.int .i64 0) := blk_cellv (HS.out.at3) 0 rfl; have hz4318 : w4315.frozen? ⟨g4314, 0, none⟩ = false := blk_fz (HS.out.at3) 0; have hc4319 : w4315.cell? ⟨g4314, 1, none⟩ = some (.int .i64 0) := blk_cellv (HS.out.at3) 1 rfl; have hz4320 : w4315.frozen? ⟨g4314, 1, none⟩ = false := blk_fz (HS.out.at3) 1; have hc4321 : w4315.cell? ⟨g4314, 2, none⟩ = some (.int .i64 0) := blk_cellv (HS.out.at3) 2 rfl; have hz4322 : w4315.frozen? ⟨g4314, 2, none⟩ = false := blk_fz (HS.out.at3) 2; have hc4323 : w4315.cell? ⟨g4314, 3, none⟩ = some (.int .i64 0) := blk_cellv (HS.out.at3) 3 rfl; have hz4324 : w4315.frozen? ⟨g4314, 3, none⟩ = false := blk_fz (HS.out.at3) 3; have hc4325 : w4315.cell? ⟨g4314, 4, none⟩ = some (.int .i64 0) := blk_cellv (HS.out.at3) 4 rfl; have hz4326 : w4315.frozen? ⟨g4314, 4, none⟩ = false := blk_fz (HS.out.at3) 4; have hc4327 : w4315.cell? ⟨g4314, 5, none⟩ = some (.int .i64 0) := blk_cellv (HS.out.at3) 5 rfl; have hz4328 : w4315.frozen? ⟨g4314, 5, none⟩ = false := blk_fz (HS.out.at3) 5; have hc4329 : w4315.cell? ⟨g4314, 6, none⟩ = some (.int .i64 0) := blk_cellv (HS.out.at3) 6 rfl; have hz4330 : w4315.frozen? ⟨g4314, 6, none⟩ = false := blk_fz (HS.out.at3) 6) | ((with_reducible refine gate_store (t := 32) (p := 5) rfl ?_); refine store_event (w1 := (World.setCell (World.setCell (World.setCell (World.setCell (World.setCell (World.setCell (World.setCell w4315 ⟨g4314, 0, none⟩ (.int .i64 t4311.1)) ⟨g4314, 1, none⟩ (.int .i64 t4311.2.1)) ⟨g4314, 2, none⟩ (.int .i64 t4311.2.2.1)) ⟨g4314, 3, none⟩ (.int .i64 t4311.2.2.2.1)) ⟨g4314, 4, none⟩ (.int .i64 t4311.2.2.2.2.1)) ⟨g4314, 5, none⟩ (.int .i64 t4311.2.2.2.2.2.1)) ⟨g4314, 6, none⟩ (.int .i64 t4311.2.2.2.2.2.2.1))) rfl (t := 32) (p := 5) rfl rfl ?hr ?_; (case hr => first | (go_simp; done) | (go_simp; rfl)); intro w4331 hst; clear hc4317 hz4318 hc4319 hz4320 hc4321 hz4322 hc4323 hz4324 hc4325 hz4326 hc4327 hz4328 hc4329 hz4330; replace HS : Aside0 (Sep FF w [b7 g3883 g3885 a3893 a3894 a3895 a3896, b6 g3885 A3888 l3887.length n3890 t4311.2.2.2.2.2.2.2.2, r5 A3888 l3887.length n3890 l3887, b16 g4314 t4311.1 t4311.2.1 t4311.2.2.1 t4311.2.2.2.1 t4311.2.2.2.2.1 t4311.2.2.2.2.2.1 t4311.2.2.2.2.2.2.1] w4331) := ⟨by rw [hst]; exact HS.out.setAll (l1 := [b7 g3883 g3885 a3893 a3894 a3895 a3896, b6 g3885 A3888 l3887.length n3890 t4311.2.2.2.2.2.2.2.2, r5 A3888 l3887.length n3890 l3887]) (l2 := []) [.int .i64 t4311.1, .int .i64 t4311.2.1, .int .i64 t4311.2.2.1, .int .i64 t4311.2.2.2.1, .int .i64 t4311.2.2.2.2.1, .int .i64 t4311.2.2.2.2.2.1, .int .i64 t4311.2.2.2.2.2.2.1] rfl⟩; clear hst; have hc4333 : w4331.cell? ⟨g4314, 0, none⟩ = some (.int .i64 t4311.1) := blk_cellv (HS.out.at3) 0 rfl; have hc4334 : w4331.cell? ⟨g4314, 1, none⟩ = some (.int .i64 t4311.2.1) := blk_cellv (HS.out.at3) 1 rfl; have hc4335 : w4331.cell? ⟨g4314, 2, none⟩ = some (.int .i64 t4311.2.2.1) := blk_cellv (HS.out.at3) 2 rfl; have hc4336 : w4331.cell? ⟨g4314, 3, none⟩ = some (.int .i64 t4311.2.2.2.1) := blk_cellv (HS.out.at3) 3 rfl; have hc4337 : w4331.cell? ⟨g4314, 4, none⟩ = some (.int .i64 t4311.2.2.2.2.1) := blk_cellv (HS.out.at3) 4 rfl; have hc4338 : w4331.cell? ⟨g4314, 5, none⟩ = some (.int .i64 t4311.2.2.2.2.2.1) := blk_cellv (HS.out.at3) 5 rfl; have hc4339 : w4331.cell? ⟨g4314, 6, none⟩ = some (.int .i64 t4311.2.2.2.2.2.2.1) := blk_cellv (HS.out.at3) 6 rfl))
    clear hc4333 hc4334 hc4335 hc4336 hc4337 hc4338 hc4339
    obtain ⟨t4340, HA4341, H⟩ := bind_some H
    refine (ring_mark.calls _ l3887 t4311.2.2.2.2.2.2.2.2 a3893 a3894 a3895 a3896 a3897 t4311.1 t4311.2.1 t4311.2.2.1 t4311.2.2.2.1 t4311.2.2.2.2.1 t4311.2.2.2.2.2.1 t4311.2.2.2.2.2.2.1 1 g3883 g3885 A3888 l3887.length n3890 t4340 _ ⟨HGl0.out.pass HS.out⟩ ⟨HS.out.begin⟩ HA4341).mono ?_
    rintro e_ w4342 ⟨rfl, hS⟩
    replace HS : Aside0 (Sep FF w [b7 g3883 g3885 a3893 a3894 a3895 a3896, b6 g3885 A3888 l3887.length n3890 t4340.1, r5 A3888 l3887.length n3890 t4340.2, b16 g4314 t4311.1 t4311.2.1 t4311.2.2.1 t4311.2.2.2.1 t4311.2.2.2.2.1 t4311.2.2.2.2.2.1 t4311.2.2.2.2.2.2.1] w4342) := ⟨HS.out.call hS⟩
    clear hS
    replace HS : Aside0 (Sep FF w [b7 g3883 g3885 a3893 a3894 a3895 a3896, b6 g3885 A3888 l3887.length n3890 t4340.1, r5 A3888 l3887.length n3890 t4340.2] w4342) := ⟨HS.out.sub (.cons_cons _ (.cons_cons _ (.cons_cons _ (.cons _ .slnil))))⟩
    go_wp2_with fail
    obtain ⟨t4343, HA4344, H⟩ := bind_some H
    refine (ground_Ground_Reg.calls t4340.2 t4340.1 a3893 a3894 a3895 a3896 8 g3883 g3885 A3888 l3887.length n3890 t4343 _ ⟨HGl0.out.pass HS.out⟩ ⟨HS.out.begin⟩ HA4344).mono ?_
    rintro e_ w4345 ⟨rfl, hS⟩
    replace HS : Aside0 (Sep FF w [b7 g3883 g3885 a3893 a3894 a3895 a3896, b6 g3885 A3888 l3887.length n3890 t4343.2, r5 A3888 l3887.length n3890 t4340.2] w4345) := ⟨HS.out.call hS⟩
    clear hS
    go_wp2_with fail
    obtain ⟨t4346, HA4347, H⟩ := bind_some H
    refine (ground_Ground_SetWord.calls t4340.2 t4343.2 a3893 a3894 a3895 a3896 a3897 6 ((t4343.1) % 4294967296) g3883 g3885 A3888 l3887.length n3890 t4346 _ ⟨HGl0.out.pass HS.out⟩ ⟨HS.out.begin⟩ HA4347).mono ?_
    rintro e_ w4348 ⟨rfl, hS⟩
    replace HS : Aside0 (Sep FF w [b7 g3883 g3885 a3893 a3894 a3895 a3896, b6 g3885 A3888 l3887.length n3890 t4346.2.1, r5 A3888 l3887.length n3890 t4346.2.2] w4348) := ⟨HS.out.call hS⟩
    clear hS
    go_wp2_with fail
    obtain ⟨t4349, HA4350, H⟩ := bind_some H
    refine (ground_Ground_SetWord.calls t4346.2.2 t4346.2.1 a3893 a3894 a3895 a3896 a3897 7 0 g3883 g3885 A3888 l3887.length n3890 t4349 _ ⟨HGl0.out.pass HS.out⟩ ⟨HS.out.begin⟩ HA4350).mono ?_
    rintro e_ w4351 ⟨rfl, hS⟩
    replace HS : Aside0 (Sep FF w [b7 g3883 g3885 a3893 a3894 a3895 a3896, b6 g3885 A3888 l3887.length n3890 t4349.2.1, r5 A3888 l3887.length n3890 t4349.2.2] w4351) := ⟨HS.out.call hS⟩
    clear hS
    go_wp2_with fail
    obtain ⟨t4352, HA4353, H⟩ := bind_some H
    refine (ring_link.calls t4349.2.2 t4349.2.1 a3893 a3894 a3895 a3896 t4343.1 7 7 (wrap64 (a3897 + 1)) g3883 g3885 A3888 l3887.length n3890 t4352 _ ⟨HGl0.out.pass HS.out⟩ ⟨HS.out.begin⟩ HA4353).mono ?_
    rintro e_ w4354 ⟨rfl, hS⟩
    replace HS : Aside0 (Sep FF w [b7 g3883 g3885 a3893 a3894 a3895 a3896, b6 g3885 A3888 l3887.length n3890 t4352.1, r5 A3888 l3887.length n3890 t4352.2] w4354) := ⟨HS.out.call hS⟩
    clear hS
    go_wp2_with fail
    obtain ⟨t4355, HA4356, H⟩ := bind_some H
    refine (ground_Ground_SetReg.calls t4352.2 t4352.1 a3893 a3894 a3895 a3896 8 (wrap64 (a3897 + 1)) g3883 g3885 A3888 l3887.length n3890 t4355 _ ⟨HGl0.out.pass HS.out⟩ ⟨HS.out.begin⟩ HA4356).mono ?_
    rintro e_ w4357 ⟨rfl, hS⟩
    replace HS : Aside0 (Sep FF w [b7 g3883 g3885 a3893 a3894 a3895 a3896, b6 g3885 A3888 l3887.length n3890 t4355.2.1, r5 A3888 l3887.length n3890 t4355.2.2] w4357) := ⟨HS.out.call hS⟩
    clear hS
    go_wp2_with fail
    obtain ⟨t4358, HA4359, H⟩ := bind_some H
    refine (ground_Ground_Reg.calls t4355.2.2 t4355.2.1 a3893 a3894 a3895 a3896 9 g3883 g3885 A3888 l3887.length n3890 t4358 _ ⟨HGl0.out.pass HS.out⟩ ⟨HS.out.begin⟩ HA4359).mono ?_
    rintro e_ w4360 ⟨rfl, hS⟩
    replace HS : Aside0 (Sep FF w [b7 g3883 g3885 a3893 a3894 a3895 a3896, b6 g3885 A3888 l3887.length n3890 t4358.2, r5 A3888 l3887.length n3890 t4355.2.2] w4360) := ⟨HS.out.call hS⟩
    clear hS
    go_wp2_with fail
    obtain ⟨t4361, HA4362, H⟩ := bind_some H
    refine (ground_Ground_SetReg.calls t4355.2.2 t4358.2 a3893 a3894 a3895 a3896 9 (wrap64 (t4358.1 + 1)) g3883 g3885 A3888 l3887.length n3890 t4361 _ ⟨HGl0.out.pass HS.out⟩ ⟨HS.out.begin⟩ HA4362).mono ?_
    rintro e_ w4363 ⟨rfl, hS⟩
    replace HS : Aside0 (Sep FF w [b7 g3883 g3885 a3893 a3894 a3895 a3896, b6 g3885 A3888 l3887.length n3890 t4361.2.1, r5 A3888 l3887.length n3890 t4361.2.2] w4363) := ⟨HS.out.call hS⟩
    clear hS
    go_wp2_with fail
    go_ret
    rw [← some_eq H]
    exact ⟨(by first | rfl | (simp [IntKind.wrap_u32]; done)), HS.out⟩
  · replace H := if_no c4332 H
    have c4332b0 : t4311.2.2.2.2.2.2.2.1 = false := by simpa using c4332
    have c4332b1 : (!t4311.2.2.2.2.2.2.2.1) = true := by rw [c4332b0]; rfl
    try rw [c4332b1]
    clear c4332
    go_wp2_with (first | ((with_reducible refine gate_dst (N := 5) rfl ?_); refine box_on ?hg (N := 5) ?hd (cs := #[.int .i64 0, .int .i64 0, .int .i64 0, .int .i64 0, .int .i64 0, .int .i64 0, .int .i64 0]) (t := 32) ?hr ?_; (case hd => rfl); (case hg => rfl); (case hr => first | (go_simp; done) | (go_simp; rfl)); intro g4314 hg w4315 hbox hb; replace HS : Aside0 (Sep FF w [b7 g3883 g3885 a3893 a3894 a3895 a3896, b6 g3885 A3888 l3887.length n3890 t4311.2.2.2.2.2.2.2.2, r5 A3888 l3887.length n3890 l3887, b16 g4314 0 0 0 0 0 0 0] w4315) := ⟨HS.out.box hg hbox hb⟩; clear hg hbox hb; have hc4317 : w4315.cell? ⟨g4314, 0, none⟩ = some (.int .i64 0) := blk_cellv (HS.out.at3) 0 rfl; have hz4318 : w4315.frozen? ⟨g4314, 0, none⟩ = false := blk_fz (HS.out.at3) 0; have hc4319 : w4315.cell? ⟨g4314, 1, none⟩ = some (.int .i64 0) := blk_cellv (HS.out.at3) 1 rfl; have hz4320 : w4315.frozen? ⟨g4314, 1, none⟩ = false := blk_fz (HS.out.at3) 1; have hc4321 : w4315.cell? ⟨g4314, 2, none⟩ = some (.int .i64 0) := blk_cellv (HS.out.at3) 2 rfl; have hz4322 : w4315.frozen? ⟨g4314, 2, none⟩ = false := blk_fz (HS.out.at3) 2; have hc4323 : w4315.cell? ⟨g4314, 3, none⟩ = some (.int .i64 0) := blk_cellv (HS.out.at3) 3 rfl; have hz4324 : w4315.frozen? ⟨g4314, 3, none⟩ = false := blk_fz (HS.out.at3) 3; have hc4325 : w4315.cell? ⟨g4314, 4, none⟩ = some (.int .i64 0) := blk_cellv (HS.out.at3) 4 rfl; have hz4326 : w4315.frozen? ⟨g4314, 4, none⟩ = false := blk_fz (HS.out.at3) 4; have hc4327 : w4315.cell? ⟨g4314, 5, none⟩ = some (.int .i64 0) := blk_cellv (HS.out.at3) 5 rfl; have hz4328 : w4315.frozen? ⟨g4314, 5, none⟩ = false := blk_fz (HS.out.at3) 5; have hc4329 : w4315.cell? ⟨g4314, 6, none⟩ = some (.int .i64 0) := blk_cellv (HS.out.at3) 6 rfl; have hz4330 : w4315.frozen? ⟨g4314, 6, none⟩ = false := blk_fz (HS.out.at3) 6) | ((with_reducible refine gate_store (t := 32) (p := 5) rfl ?_); refine store_event (w1 := (World.setCell (World.setCell (World.setCell (World.setCell (World.setCell (World.setCell (World.setCell w4315 ⟨g4314, 0, none⟩ (.int .i64 t4311.1)) ⟨g4314, 1, none⟩ (.int .i64 t4311.2.1)) ⟨g4314, 2, none⟩ (.int .i64 t4311.2.2.1)) ⟨g4314, 3, none⟩ (.int .i64 t4311.2.2.2.1)) ⟨g4314, 4, none⟩ (.int .i64 t4311.2.2.2.2.1)) ⟨g4314, 5, none⟩ (.int .i64 t4311.2.2.2.2.2.1)) ⟨g4314, 6, none⟩ (.int .i64 t4311.2.2.2.2.2.2.1))) rfl (t := 32) (p := 5) rfl rfl ?hr ?_; (case hr => first | (go_simp; done) | (go_simp; rfl)); intro w4331 hst; clear hc4317 hz4318 hc4319 hz4320 hc4321 hz4322 hc4323 hz4324 hc4325 hz4326 hc4327 hz4328 hc4329 hz4330; replace HS : Aside0 (Sep FF w [b7 g3883 g3885 a3893 a3894 a3895 a3896, b6 g3885 A3888 l3887.length n3890 t4311.2.2.2.2.2.2.2.2, r5 A3888 l3887.length n3890 l3887, b16 g4314 t4311.1 t4311.2.1 t4311.2.2.1 t4311.2.2.2.1 t4311.2.2.2.2.1 t4311.2.2.2.2.2.1 t4311.2.2.2.2.2.2.1] w4331) := ⟨by rw [hst]; exact HS.out.setAll (l1 := [b7 g3883 g3885 a3893 a3894 a3895 a3896, b6 g3885 A3888 l3887.length n3890 t4311.2.2.2.2.2.2.2.2, r5 A3888 l3887.length n3890 l3887]) (l2 := []) [.int .i64 t4311.1, .int .i64 t4311.2.1, .int .i64 t4311.2.2.1, .int .i64 t4311.2.2.2.1, .int .i64 t4311.2.2.2.2.1, .int .i64 t4311.2.2.2.2.2.1, .int .i64 t4311.2.2.2.2.2.2.1] rfl⟩; clear hst; replace HS : Aside0 (Sep FF w [b7 g3883 g3885 a3893 a3894 a3895 a3896, b6 g3885 A3888 l3887.length n3890 t4311.2.2.2.2.2.2.2.2, r5 A3888 l3887.length n3890 l3887] w4331) := ⟨HS.out.sub (.cons_cons _ (.cons_cons _ (.cons_cons _ (.cons _ .slnil))))⟩))
    go_ret
    rw [← some_eq H]
    exact ⟨(by first | rfl | (simp [IntKind.wrap_u32]; done)), HS.out⟩
end Go.Proofs.YtobeonkddamnoaaDoor.C

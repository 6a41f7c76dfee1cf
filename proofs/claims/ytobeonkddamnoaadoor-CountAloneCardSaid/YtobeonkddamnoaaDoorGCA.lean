/- Each function of the group CA does what its plain function says, and changes nothing that was there; proved by walking its code. No condition. -/
import Derived.Test.YtobeonkddamnoaaDoorQw
import Derived.Test.YtobeonkddamnoaaDoorMCA
import Derived.Test.YtobeonkddamnoaaDoorGCA0
import Derived.Test.YtobeonkddamnoaaDoorGCA1
namespace Go.Proofs.YtobeonkddamnoaaDoor.C
open Go.RowKit Go.Proofs.YtobeonkddamnoaaDoorW.PrintWords Go.Proofs.YtobeonkddamnoaaDoorW.PrintLast Go.Proofs.YtobeonkddamnoaaDoor.Q Go.Proofs.YtobeonkddamnoaaDoor.M
set_option linter.unusedVariables false
set_option linter.unusedSimpArgs false
set_option maxHeartbeats 30000000 in
set_option maxRecDepth 100000 in
theorem obj_Make.calls (k : Nat) (l1868 : List Int) (a1873 : Int) (a1874 : Int) (a1875 : Int) (a1876 : Int) (a1877 : Int) (a1878 : Int) (a1879 : Int) (g1864 : Nat) (g1866 : Nat) (A1869 : Option Addr) (m1870 : Nat) (n1871 : Nat) (r : Int × Int × Int × List Int) (w : World)  (HGl0 : Aside0 (Gl 0 #[.int .i64 0, .int .i64 0, .int .i64 0, .int .i64 0, .int .i64 0] (fps [b8 g1864 g1866 a1874 a1875 a1876 a1877, b7 g1866 A1869 m1870 n1871 a1873, r6 A1869 m1870 n1871 l1868]) w)) (HS : Aside0 (Sep (fps [b8 g1864 g1866 a1874 a1875 a1876 a1877, b7 g1866 A1869 m1870 n1871 a1873, r6 A1869 m1870 n1871 l1868]) w [b8 g1864 g1866 a1874 a1875 a1876 a1877, b7 g1866 A1869 m1870 n1871 a1873, r6 A1869 m1870 n1871 l1868] w)) (H : Aside0 (obj_Make.f k l1868 a1873 a1874 a1875 a1876 a1877 a1878 a1879 = some r)) :
    Calls Tryd.prog 34 #[.pointer (some ⟨g1864, 0, none⟩), .int .i64 a1878, .int .i64 a1879] w fun e w' => e = .returned (.tuple #[.int .i64 r.1, .int .i64 r.2.1]) ∧ Sep (fps [b8 g1864 g1866 a1874 a1875 a1876 a1877, b7 g1866 A1869 m1870 n1871 a1873, r6 A1869 m1870 n1871 l1868]) w [b8 g1864 g1866 a1874 a1875 a1876 a1877, b7 g1866 A1869 m1870 n1871 r.2.2.1, r6 A1869 m1870 n1871 r.2.2.2] w' := by
  generalize (fps [b8 g1864 g1866 a1874 a1875 a1876 a1877, b7 g1866 A1869 m1870 n1871 a1873, r6 A1869 m1870 n1871 l1868]) = FF at HS HGl0 ⊢
  obtain rfl := (row_len (HS.out.at2)).symm
  unfold obj_Make.f at H
  go_enter Tryd.func34, Tryd.ntmps34
  go_wp2_with fail
  obtain ⟨t2696, HA2697, H⟩ := bind_some H
  refine (ground_Ground_Conf.calls l1868 a1873 a1874 a1875 a1876 a1877 g1864 g1866 A1869 l1868.length n1871 t2696 _ ⟨HGl0.out.pass HS.out⟩ ⟨HS.out.begin⟩ HA2697).mono ?_
  rintro e_ w2698 ⟨rfl, hS⟩
  replace HS : Aside0 (Sep FF w [b8 g1864 g1866 a1874 a1875 a1876 a1877, b7 g1866 A1869 l1868.length n1871 a1873, r6 A1869 l1868.length n1871 l1868] w2698) := ⟨HS.out.call hS⟩
  clear hS
  have fl2699 : ∀ w, (Instr.field 30 (.agg #[.int .i64 t2696.1, .int .i64 t2696.2.1, .int .i64 t2696.2.2.1, .int .i64 t2696.2.2.2]) 1).run Tryd.prog w = .ok (.int .i64 t2696.2.1) w := fun _ => by kernel_rfl
  go_wp2_with fail
  clear fl2699
  obtain ⟨t2700, HA2701, H⟩ := bind_some H
  refine (shape_Blocks.calls _ t2696.2.1 a1878 a1879 t2700 _ ⟨HGl0.out.pass (l := []) HS.out⟩ ⟨Sep.start _⟩ HA2701).mono ?_
  rintro e_ w2702 ⟨rfl, hS⟩
  replace HS : Aside0 (Sep FF w [b8 g1864 g1866 a1874 a1875 a1876 a1877, b7 g1866 A1869 l1868.length n1871 a1873, r6 A1869 l1868.length n1871 l1868] w2702) := ⟨HS.out.call hS⟩
  clear hS
  by_cases c2703 : t2700.2 = 0
  · replace H := if_yes c2703 H
    have c2703b0 : (t2700.2 == 0) = true := beq_iff_eq.mpr c2703
    have c2703b1 : (t2700.2 != 0) = false := bne_eq_false_iff_eq.mpr c2703
    clear c2703
    go_wp2_with fail
    obtain ⟨t2704, HA2705, H⟩ := bind_some H
    refine (pool_Len.calls l1868 a1873 a1874 a1875 a1876 a1877 g1864 g1866 A1869 l1868.length n1871 t2704 _ ⟨HGl0.out.pass HS.out⟩ ⟨HS.out.begin⟩ HA2705).mono ?_
    rintro e_ w2706 ⟨rfl, hS⟩
    replace HS : Aside0 (Sep FF w [b8 g1864 g1866 a1874 a1875 a1876 a1877, b7 g1866 A1869 l1868.length n1871 t2704.2, r6 A1869 l1868.length n1871 l1868] w2706) := ⟨HS.out.call hS⟩
    clear hS
    by_cases c2707 : t2704.1 < t2700.1
    · replace H := if_yes c2707 H
      have c2707b0 : decide (t2704.1 < t2700.1) = true := decide_eq_true c2707
      clear c2707
      go_wp2_with fail
      go_ret2
      rw [← some_eq H]
      exact ⟨(by first | rfl | (simp [IntKind.wrap_u32]; done)), HS.out⟩
    · replace H := if_no c2707 H
      have c2707b0 : decide (t2704.1 < t2700.1) = false := decide_eq_false c2707
      clear c2707
      go_wp2_with fail
      obtain ⟨t2708, HA2709, H⟩ := bind_some H
      refine (pool_Take.calls _ l1868 t2704.2 a1874 a1875 a1876 a1877 g1864 g1866 A1869 l1868.length n1871 t2708 _ ⟨HGl0.out.pass HS.out⟩ ⟨HS.out.begin⟩ HA2709).mono ?_
      rintro e_ w2710 ⟨rfl, hS⟩
      replace HS : Aside0 (Sep FF w [b8 g1864 g1866 a1874 a1875 a1876 a1877, b7 g1866 A1869 l1868.length n1871 t2708.2.2.1, r6 A1869 l1868.length n1871 t2708.2.2.2] w2710) := ⟨HS.out.call hS⟩
      clear hS
      by_cases c2711 : t2700.1 > 1
      · replace H := if_yes c2711 H
        have c2711b0 : decide (1 < t2700.1) = true := decide_eq_true c2711
        clear c2711
        go_wp2_with fail
        obtain ⟨t2712, HA2713, H⟩ := bind_some H
        refine (obj_mark.calls _ t2708.2.2.2 t2708.2.2.1 a1874 a1875 a1876 a1877 t2708.1 2 0 0 0 0 0 0 g1864 g1866 A1869 l1868.length n1871 t2712 _ ⟨HGl0.out.pass HS.out⟩ ⟨HS.out.begin⟩ HA2713).mono ?_
        rintro e_ w2714 ⟨rfl, hS⟩
        replace HS : Aside0 (Sep FF w [b8 g1864 g1866 a1874 a1875 a1876 a1877, b7 g1866 A1869 l1868.length n1871 t2712.1, r6 A1869 l1868.length n1871 t2712.2] w2714) := ⟨HS.out.call hS⟩
        clear hS
        go_wp2_with fail
        obtain ⟨t2715, HA2716, H⟩ := bind_some H
        refine (ground_Ground_SetWord.calls t2712.2 t2712.1 a1874 a1875 a1876 a1877 t2708.1 1 ((a1878) % 4294967296) g1864 g1866 A1869 l1868.length n1871 t2715 _ ⟨HGl0.out.pass HS.out⟩ ⟨HS.out.begin⟩ HA2716).mono ?_
        rintro e_ w2717 ⟨rfl, hS⟩
        replace HS : Aside0 (Sep FF w [b8 g1864 g1866 a1874 a1875 a1876 a1877, b7 g1866 A1869 l1868.length n1871 t2715.2.1, r6 A1869 l1868.length n1871 t2715.2.2] w2717) := ⟨HS.out.call hS⟩
        clear hS
        go_wp2_with fail
        obtain ⟨t2718, HA2719, H⟩ := bind_some H
        refine (ground_Ground_SetWord.calls t2715.2.2 t2715.2.1 a1874 a1875 a1876 a1877 t2708.1 2 ((a1879) % 4294967296) g1864 g1866 A1869 l1868.length n1871 t2718 _ ⟨HGl0.out.pass HS.out⟩ ⟨HS.out.begin⟩ HA2719).mono ?_
        rintro e_ w2720 ⟨rfl, hS⟩
        replace HS : Aside0 (Sep FF w [b8 g1864 g1866 a1874 a1875 a1876 a1877, b7 g1866 A1869 l1868.length n1871 t2718.2.1, r6 A1869 l1868.length n1871 t2718.2.2] w2720) := ⟨HS.out.call hS⟩
        clear hS
        go_wp2_with fail
        obtain ⟨o2737, AL2738, H⟩ := bind_some H
        go_loopg [56] k (fun kq v56 wc => ∃ (x2741 : Int) (x2742 : List Int) (x2743 : Int), v56 = .int .i64 x2741 ∧ Aside0 (obj_Make.lo0 kq a1874 a1875 a1876 a1877 t2700 t2708 x2741 x2742 x2743 = some o2737) ∧ Aside0 (Sep FF w [b8 g1864 g1866 a1874 a1875 a1876 a1877, b7 g1866 A1869 l1868.length n1871 x2743, r6 A1869 l1868.length n1871 x2742] wc))
        case atStart => exact ⟨(0), (t2718.2.2), (t2718.2.1), (by first | rfl | (simp [IntKind.wrap_u32]; done)), AL2738, ⟨HS.out⟩⟩
        case round =>
          clear AL2738 HS
          obtain ⟨x2741, x2742, x2743, rfl, AL2738, HS⟩ := hrel
          obtain ⟨w2739, rfl⟩ : ∃ x : World, x = wr := ⟨_, rfl⟩
          cases gk with
          | zero => exact absurd AL2738.out (by simp [obj_Make.lo0])
          | succ k2740 =>
            have AL0 := AL2738.out
            rw [obj_Make.lo0] at AL0
            clear AL2738
            have AL2738 := Aside0.mk AL0
            clear AL0
            by_cases c2744 : x2741 < (wrap64 (t2700.1 - 1))
            · replace AL2738 := if_yes c2744 AL2738
              have c2744b0 : decide (x2741 < (wrap64 (t2700.1 - 1))) = true := decide_eq_true c2744
              clear c2744
              go_wp2_with fail
              obtain ⟨t2728, HA2745, AL2738⟩ := bind_some AL2738
              refine (pool_Take.calls _ x2742 x2743 a1874 a1875 a1876 a1877 g1864 g1866 A1869 l1868.length n1871 t2728 _ ⟨HGl0.out.pass HS.out⟩ ⟨HS.out.begin⟩ HA2745).mono ?_
              rintro e_ w2746 ⟨rfl, hS⟩
              replace HS : Aside0 (Sep FF w [b8 g1864 g1866 a1874 a1875 a1876 a1877, b7 g1866 A1869 l1868.length n1871 t2728.2.2.1, r6 A1869 l1868.length n1871 t2728.2.2.2] w2746) := ⟨HS.out.call hS⟩
              clear hS
              go_wp2_with fail
              obtain ⟨t2731, HA2747, AL2738⟩ := bind_some AL2738
              refine (obj_mark.calls _ t2728.2.2.2 t2728.2.2.1 a1874 a1875 a1876 a1877 t2728.1 3 0 0 0 0 0 t2708.1 g1864 g1866 A1869 l1868.length n1871 t2731 _ ⟨HGl0.out.pass HS.out⟩ ⟨HS.out.begin⟩ HA2747).mono ?_
              rintro e_ w2748 ⟨rfl, hS⟩
              replace HS : Aside0 (Sep FF w [b8 g1864 g1866 a1874 a1875 a1876 a1877, b7 g1866 A1869 l1868.length n1871 t2731.1, r6 A1869 l1868.length n1871 t2731.2] w2748) := ⟨HS.out.call hS⟩
              clear hS
              go_wp2_with fail
              obtain ⟨t2734, HA2749, AL2738⟩ := bind_some AL2738
              refine (ground_Ground_SetWord.calls t2731.2 t2731.1 a1874 a1875 a1876 a1877 t2708.1 (wrap64 (8 + x2741)) ((wrap64 (t2728.1 + 1)) % 4294967296) g1864 g1866 A1869 l1868.length n1871 t2734 _ ⟨HGl0.out.pass HS.out⟩ ⟨HS.out.begin⟩ HA2749).mono ?_
              rintro e_ w2750 ⟨rfl, hS⟩
              replace HS : Aside0 (Sep FF w [b8 g1864 g1866 a1874 a1875 a1876 a1877, b7 g1866 A1869 l1868.length n1871 t2734.2.1, r6 A1869 l1868.length n1871 t2734.2.2] w2750) := ⟨HS.out.call hS⟩
              clear hS
              go_wp2_with fail
              go_roundg k2740
              case measure => exact Nat.lt_succ_self _
              case rel => exact ⟨(wrap64 (x2741 + 1)), (t2734.2.2), (t2734.2.1), (by first | rfl | (simp [IntKind.wrap_u32]; done)), Aside0.mk AL2738.out, ⟨HS.out⟩⟩
            · replace AL2738 := if_no c2744 AL2738
              have c2744b0 : decide (x2741 < (wrap64 (t2700.1 - 1))) = false := decide_eq_false c2744
              clear c2744
              have ho := some_eq AL2738
              subst ho
              clear AL2738
              go_wp2_with fail
              go_ret2
              rw [← some_eq H]
              exact ⟨(by first | rfl | (simp [IntKind.wrap_u32]; done)), HS.out⟩
      · replace H := if_no c2711 H
        have c2711b0 : decide (1 < t2700.1) = false := decide_eq_false c2711
        clear c2711
        go_wp2_with fail
        obtain ⟨t2712, HA2752, H⟩ := bind_some H
        refine (obj_mark.calls _ t2708.2.2.2 t2708.2.2.1 a1874 a1875 a1876 a1877 t2708.1 1 0 0 0 0 0 0 g1864 g1866 A1869 l1868.length n1871 t2712 _ ⟨HGl0.out.pass HS.out⟩ ⟨HS.out.begin⟩ HA2752).mono ?_
        rintro e_ w2753 ⟨rfl, hS⟩
        replace HS : Aside0 (Sep FF w [b8 g1864 g1866 a1874 a1875 a1876 a1877, b7 g1866 A1869 l1868.length n1871 t2712.1, r6 A1869 l1868.length n1871 t2712.2] w2753) := ⟨HS.out.call hS⟩
        clear hS
        go_wp2_with fail
        obtain ⟨t2715, HA2754, H⟩ := bind_some H
        refine (ground_Ground_SetWord.calls t2712.2 t2712.1 a1874 a1875 a1876 a1877 t2708.1 1 ((a1878) % 4294967296) g1864 g1866 A1869 l1868.length n1871 t2715 _ ⟨HGl0.out.pass HS.out⟩ ⟨HS.out.begin⟩ HA2754).mono ?_
        rintro e_ w2755 ⟨rfl, hS⟩
        replace HS : Aside0 (Sep FF w [b8 g1864 g1866 a1874 a1875 a1876 a1877, b7 g1866 A1869 l1868.length n1871 t2715.2.1, r6 A1869 l1868.length n1871 t2715.2.2] w2755) := ⟨HS.out.call hS⟩
        clear hS
        go_wp2_with fail
        obtain ⟨t2718, HA2756, H⟩ := bind_some H
        refine (ground_Ground_SetWord.calls t2715.2.2 t2715.2.1 a1874 a1875 a1876 a1877 t2708.1 2 ((a1879) % 4294967296) g1864 g1866 A1869 l1868.length n1871 t2718 _ ⟨HGl0.out.pass HS.out⟩ ⟨HS.out.begin⟩ HA2756).mono ?_
        rintro e_ w2757 ⟨rfl, hS⟩
        replace HS : Aside0 (Sep FF w [b8 g1864 g1866 a1874 a1875 a1876 a1877, b7 g1866 A1869 l1868.length n1871 t2718.2.1, r6 A1869 l1868.length n1871 t2718.2.2] w2757) := ⟨HS.out.call hS⟩
        clear hS
        go_wp2_with fail
        obtain ⟨o2771, AL2772, H⟩ := bind_some H
        go_loopg [56] k (fun kq v56 wc => ∃ (x2775 : Int) (x2776 : List Int) (x2777 : Int), v56 = .int .i64 x2775 ∧ Aside0 (obj_Make.lo1 kq a1874 a1875 a1876 a1877 t2700 t2708 x2775 x2776 x2777 = some o2771) ∧ Aside0 (Sep FF w [b8 g1864 g1866 a1874 a1875 a1876 a1877, b7 g1866 A1869 l1868.length n1871 x2777, r6 A1869 l1868.length n1871 x2776] wc))
        case atStart => exact ⟨(0), (t2718.2.2), (t2718.2.1), (by first | rfl | (simp [IntKind.wrap_u32]; done)), AL2772, ⟨HS.out⟩⟩
        case round =>
          clear AL2772 HS
          obtain ⟨x2775, x2776, x2777, rfl, AL2772, HS⟩ := hrel
          obtain ⟨w2773, rfl⟩ : ∃ x : World, x = wr := ⟨_, rfl⟩
          cases gk with
          | zero => exact absurd AL2772.out (by simp [obj_Make.lo1])
          | succ k2774 =>
            have AL0 := AL2772.out
            rw [obj_Make.lo1] at AL0
            clear AL2772
            have AL2772 := Aside0.mk AL0
            clear AL0
            by_cases c2778 : x2775 < (wrap64 (t2700.1 - 1))
            · replace AL2772 := if_yes c2778 AL2772
              have c2778b0 : decide (x2775 < (wrap64 (t2700.1 - 1))) = true := decide_eq_true c2778
              clear c2778
              go_wp2_with fail
              obtain ⟨t2728, HA2779, AL2772⟩ := bind_some AL2772
              refine (pool_Take.calls _ x2776 x2777 a1874 a1875 a1876 a1877 g1864 g1866 A1869 l1868.length n1871 t2728 _ ⟨HGl0.out.pass HS.out⟩ ⟨HS.out.begin⟩ HA2779).mono ?_
              rintro e_ w2780 ⟨rfl, hS⟩
              replace HS : Aside0 (Sep FF w [b8 g1864 g1866 a1874 a1875 a1876 a1877, b7 g1866 A1869 l1868.length n1871 t2728.2.2.1, r6 A1869 l1868.length n1871 t2728.2.2.2] w2780) := ⟨HS.out.call hS⟩
              clear hS
              go_wp2_with fail
              obtain ⟨t2731, HA2781, AL2772⟩ := bind_some AL2772
              refine (obj_mark.calls _ t2728.2.2.2 t2728.2.2.1 a1874 a1875 a1876 a1877 t2728.1 3 0 0 0 0 0 t2708.1 g1864 g1866 A1869 l1868.length n1871 t2731 _ ⟨HGl0.out.pass HS.out⟩ ⟨HS.out.begin⟩ HA2781).mono ?_
              rintro e_ w2782 ⟨rfl, hS⟩
              replace HS : Aside0 (Sep FF w [b8 g1864 g1866 a1874 a1875 a1876 a1877, b7 g1866 A1869 l1868.length n1871 t2731.1, r6 A1869 l1868.length n1871 t2731.2] w2782) := ⟨HS.out.call hS⟩
              clear hS
              go_wp2_with fail
              obtain ⟨t2734, HA2783, AL2772⟩ := bind_some AL2772
              refine (ground_Ground_SetWord.calls t2731.2 t2731.1 a1874 a1875 a1876 a1877 t2708.1 (wrap64 (8 + x2775)) ((wrap64 (t2728.1 + 1)) % 4294967296) g1864 g1866 A1869 l1868.length n1871 t2734 _ ⟨HGl0.out.pass HS.out⟩ ⟨HS.out.begin⟩ HA2783).mono ?_
              rintro e_ w2784 ⟨rfl, hS⟩
              replace HS : Aside0 (Sep FF w [b8 g1864 g1866 a1874 a1875 a1876 a1877, b7 g1866 A1869 l1868.length n1871 t2734.2.1, r6 A1869 l1868.length n1871 t2734.2.2] w2784) := ⟨HS.out.call hS⟩
              clear hS
              go_wp2_with fail
              go_roundg k2774
              case measure => exact Nat.lt_succ_self _
              case rel => exact ⟨(wrap64 (x2775 + 1)), (t2734.2.2), (t2734.2.1), (by first | rfl | (simp [IntKind.wrap_u32]; done)), Aside0.mk AL2772.out, ⟨HS.out⟩⟩
            · replace AL2772 := if_no c2778 AL2772
              have c2778b0 : decide (x2775 < (wrap64 (t2700.1 - 1))) = false := decide_eq_false c2778
              clear c2778
              have ho := some_eq AL2772
              subst ho
              clear AL2772
              go_wp2_with fail
              go_ret2
              rw [← some_eq H]
              exact ⟨(by first | rfl | (simp [IntKind.wrap_u32]; done)), HS.out⟩
  · replace H := if_no c2703 H
    have c2703b0 : (t2700.2 == 0) = false := beq_eq_false_iff_ne.mpr c2703
    have c2703b1 : (t2700.2 != 0) = true := bne_iff_ne.mpr c2703
    clear c2703
    go_wp2_with fail
    go_ret2
    rw [← some_eq H]
    exact ⟨(by first | rfl | (simp [IntKind.wrap_u32]; done)), HS.out⟩

set_option maxHeartbeats 30000000 in
set_option maxRecDepth 100000 in
theorem obj_in.calls (l2824 : List Int) (a2829 : Int) (a2830 : Int) (a2831 : Int) (a2832 : Int) (a2833 : Int) (a2834 : Int) (g2820 : Nat) (g2822 : Nat) (A2825 : Option Addr) (m2826 : Nat) (n2827 : Nat) (r : Bool) (w : World)  (HGl0 : Aside0 (Gl 0 #[.int .i64 0, .int .i64 0, .int .i64 0, .int .i64 0, .int .i64 0] (fps [b8 g2820 g2822 a2830 a2831 a2832 a2833, b7 g2822 A2825 m2826 n2827 a2829, r6 A2825 m2826 n2827 l2824]) w)) (HS : Aside0 (Sep (fps [b8 g2820 g2822 a2830 a2831 a2832 a2833, b7 g2822 A2825 m2826 n2827 a2829, r6 A2825 m2826 n2827 l2824]) w [b8 g2820 g2822 a2830 a2831 a2832 a2833, b7 g2822 A2825 m2826 n2827 a2829, r6 A2825 m2826 n2827 l2824] w)) (H : Aside0 (obj_in.f l2824 a2829 a2830 a2831 a2832 a2833 a2834 = some r)) :
    Calls Tryd.prog 100 #[.pointer (some ⟨g2820, 0, none⟩), .int .i64 a2834] w fun e w' => e = .returned (.bool r) ∧ Sep (fps [b8 g2820 g2822 a2830 a2831 a2832 a2833, b7 g2822 A2825 m2826 n2827 a2829, r6 A2825 m2826 n2827 l2824]) w [b8 g2820 g2822 a2830 a2831 a2832 a2833, b7 g2822 A2825 m2826 n2827 a2829, r6 A2825 m2826 n2827 l2824] w' := by
  generalize (fps [b8 g2820 g2822 a2830 a2831 a2832 a2833, b7 g2822 A2825 m2826 n2827 a2829, r6 A2825 m2826 n2827 l2824]) = FF at HS HGl0 ⊢
  obtain rfl := (row_len (HS.out.at2)).symm
  unfold obj_in.f at H
  go_enter Tryd.func100, Tryd.ntmps100
  by_cases c2835 : a2834 > 0
  · replace H := if_yes c2835 H
    have c2835b0 : decide (0 < a2834) = true := decide_eq_true c2835
    clear c2835
    go_wp2_with fail
    obtain ⟨t2836, HA2837, H⟩ := bind_some H
    refine (ground_Ground_Conf.calls l2824 a2829 a2830 a2831 a2832 a2833 g2820 g2822 A2825 l2824.length n2827 t2836 _ ⟨HGl0.out.pass HS.out⟩ ⟨HS.out.begin⟩ HA2837).mono ?_
    rintro e_ w2838 ⟨rfl, hS⟩
    replace HS : Aside0 (Sep FF w [b8 g2820 g2822 a2830 a2831 a2832 a2833, b7 g2822 A2825 l2824.length n2827 a2829, r6 A2825 l2824.length n2827 l2824] w2838) := ⟨HS.out.call hS⟩
    clear hS
    have fl2839 : ∀ w, (Instr.field 30 (.agg #[.int .i64 t2836.1, .int .i64 t2836.2.1, .int .i64 t2836.2.2.1, .int .i64 t2836.2.2.2]) 0).run Tryd.prog w = .ok (.int .i64 t2836.1) w := fun _ => by kernel_rfl
    go_wp2_with fail
    clear fl2839
    go_ret
    rw [← some_eq H]
    exact ⟨(by first | rfl | (simp [IntKind.wrap_u32]; done)), HS.out⟩
  · replace H := if_no c2835 H
    have c2835b0 : decide (0 < a2834) = false := decide_eq_false c2835
    clear c2835
    go_wp2_with fail
    go_ret
    rw [← some_eq H]
    exact ⟨(by first | rfl | (simp [IntKind.wrap_u32]; done)), HS.out⟩

set_option maxHeartbeats 30000000 in
set_option maxRecDepth 100000 in
theorem store_Store_Peek.calls (l2870 : List Int) (a2875 : Int) (a2876 : Int) (g2868 : Nat) (A2871 : Option Addr) (m2872 : Nat) (n2873 : Nat) (r : Int) (w : World)  (HGl0 : Aside0 (Gl 0 #[.int .i64 0, .int .i64 0, .int .i64 0, .int .i64 0, .int .i64 0] (fps [b7 g2868 A2871 m2872 n2873 a2875, r6 A2871 m2872 n2873 l2870]) w)) (HS : Aside0 (Sep (fps [b7 g2868 A2871 m2872 n2873 a2875, r6 A2871 m2872 n2873 l2870]) w [b7 g2868 A2871 m2872 n2873 a2875, r6 A2871 m2872 n2873 l2870] w)) (H : Aside0 (store_Store_Peek.f l2870 a2875 a2876 = some r)) :
    Calls Tryd.prog 73 #[.pointer (some ⟨g2868, 0, none⟩), .int .i64 a2876] w fun e w' => e = .returned (.int .u32 r) ∧ Sep (fps [b7 g2868 A2871 m2872 n2873 a2875, r6 A2871 m2872 n2873 l2870]) w [b7 g2868 A2871 m2872 n2873 a2875, r6 A2871 m2872 n2873 l2870] w' := by
  generalize (fps [b7 g2868 A2871 m2872 n2873 a2875, r6 A2871 m2872 n2873 l2870]) = FF at HS HGl0 ⊢
  obtain rfl := (row_len (HS.out.at1)).symm
  unfold store_Store_Peek.f at H
  go_enter Tryd.func73, Tryd.ntmps73
  go_wp2_with fail
  obtain ⟨t2877, HA2878, H⟩ := bind_some H
  refine (store_Store_has.calls l2870 a2875 a2876 g2868 A2871 l2870.length n2873 t2877 _ ⟨HGl0.out.pass HS.out⟩ ⟨HS.out.begin⟩ HA2878).mono ?_
  rintro e_ w2879 ⟨rfl, hS⟩
  replace HS : Aside0 (Sep FF w [b7 g2868 A2871 l2870.length n2873 a2875, r6 A2871 l2870.length n2873 l2870] w2879) := ⟨HS.out.call hS⟩
  clear hS
  by_cases c2880 : t2877 = true
  · replace H := if_yes c2880 H
    have c2880b0 : t2877 = true := c2880
    have c2880b1 : (!t2877) = false := by rw [c2880b0]; rfl
    try rw [c2880b1]
    clear c2880
    by_cases c2882 : 0 ≤ a2876
    · replace H := if_yes c2882 H
      have c2882b0 : decide (0 ≤ a2876) = true := decide_eq_true c2882
      have c2882p : (0 ≤ a2876) = True := eq_true c2882
      clear c2882
      by_cases c2883 : a2876 < (l2870.length : Int)
      · replace H := if_yes c2883 H
        have c2883b0 : decide (a2876 < (l2870.length : Int)) = true := decide_eq_true c2883
        have c2883p : (a2876 < (l2870.length : Int)) = True := eq_true c2883
        clear c2883
        have hc2881 : w2879.cell? ⟨g2868, 0, none⟩ = some (.slice A2871 l2870.length n2873) := blk_cellv (HS.out.at0) 0 rfl
        obtain ⟨g2884, ea⟩ := row_at (HS.out.at1) (by have := (of_decide_eq_true c2882b0); have := (of_decide_eq_true c2883b0); omega); cases ea
        have hx2885 := C_at_int (row_Ci (HS.out.at1)) a2876 (of_decide_eq_true c2882b0) (of_decide_eq_true c2883b0)
        have hx2886 : w2879.cell? ⟨g2884, (a2876).toNat, none⟩ = some (.int .u32 (rd l2870 a2876)) := (row_get 0 (HS.out.at1) a2876 (of_decide_eq_true c2882b0) (of_decide_eq_true c2883b0)).1
        go_wp2_with fail
        clear hc2881 hx2885 hx2886
        go_ret
        rw [← some_eq H]
        exact ⟨(by first | rfl | (simp [IntKind.wrap_u32]; done)), HS.out⟩
      · replace H := if_no c2883 H
        have c2883b0 : decide (a2876 < (l2870.length : Int)) = false := decide_eq_false c2883
        clear c2883
        exact (none_no H).elim
    · replace H := if_no c2882 H
      have c2882b0 : decide (0 ≤ a2876) = false := decide_eq_false c2882
      clear c2882
      exact (none_no H).elim
  · replace H := if_no c2880 H
    have c2880b0 : t2877 = false := by simpa using c2880
    have c2880b1 : (!t2877) = true := by rw [c2880b0]; rfl
    try rw [c2880b1]
    clear c2880
    go_wp2_with fail
    go_ret
    rw [← some_eq H]
    exact ⟨(by first | rfl | (simp [IntKind.wrap_u32]; done)), HS.out⟩

set_option maxHeartbeats 30000000 in
set_option maxRecDepth 100000 in
theorem ground_Ground_SeeWord.calls (l2849 : List Int) (a2854 : Int) (a2855 : Int) (a2856 : Int) (a2857 : Int) (a2858 : Int) (a2859 : Int) (a2860 : Int) (g2845 : Nat) (g2847 : Nat) (A2850 : Option Addr) (m2851 : Nat) (n2852 : Nat) (r : Int) (w : World)  (HGl0 : Aside0 (Gl 0 #[.int .i64 0, .int .i64 0, .int .i64 0, .int .i64 0, .int .i64 0] (fps [b8 g2845 g2847 a2855 a2856 a2857 a2858, b7 g2847 A2850 m2851 n2852 a2854, r6 A2850 m2851 n2852 l2849]) w)) (HS : Aside0 (Sep (fps [b8 g2845 g2847 a2855 a2856 a2857 a2858, b7 g2847 A2850 m2851 n2852 a2854, r6 A2850 m2851 n2852 l2849]) w [b8 g2845 g2847 a2855 a2856 a2857 a2858, b7 g2847 A2850 m2851 n2852 a2854, r6 A2850 m2851 n2852 l2849] w)) (H : Aside0 (ground_Ground_SeeWord.f l2849 a2854 a2855 a2856 a2857 a2858 a2859 a2860 = some r)) :
    Calls Tryd.prog 18 #[.pointer (some ⟨g2845, 0, none⟩), .int .i64 a2859, .int .i64 a2860] w fun e w' => e = .returned (.int .u32 r) ∧ Sep (fps [b8 g2845 g2847 a2855 a2856 a2857 a2858, b7 g2847 A2850 m2851 n2852 a2854, r6 A2850 m2851 n2852 l2849]) w [b8 g2845 g2847 a2855 a2856 a2857 a2858, b7 g2847 A2850 m2851 n2852 a2854, r6 A2850 m2851 n2852 l2849] w' := by
  generalize (fps [b8 g2845 g2847 a2855 a2856 a2857 a2858, b7 g2847 A2850 m2851 n2852 a2854, r6 A2850 m2851 n2852 l2849]) = FF at HS HGl0 ⊢
  obtain rfl := (row_len (HS.out.at2)).symm
  unfold ground_Ground_SeeWord.f at H
  go_enter Tryd.func18, Tryd.ntmps18
  go_wp2_with fail
  obtain ⟨t2861, HA2862, H⟩ := bind_some H
  refine (ground_Ground_all.calls l2849 a2854 a2855 a2856 a2857 a2858 g2845 g2847 A2850 l2849.length n2852 t2861 _ ⟨HGl0.out.pass HS.out⟩ ⟨HS.out.begin⟩ HA2862).mono ?_
  rintro e_ w2863 ⟨rfl, hS⟩
  replace HS : Aside0 (Sep FF w [b8 g2845 g2847 a2855 a2856 a2857 a2858, b7 g2847 A2850 l2849.length n2852 a2854, r6 A2850 l2849.length n2852 l2849] w2863) := ⟨HS.out.call hS⟩
  clear hS
  go_wp2_with fail
  obtain ⟨t2864, HA2865, H⟩ := bind_some H
  refine (ground_Ground_word.calls l2849 a2854 a2855 a2856 a2857 a2858 a2859 a2860 g2845 g2847 A2850 l2849.length n2852 t2864 _ ⟨HGl0.out.pass HS.out⟩ ⟨HS.out.begin⟩ HA2865).mono ?_
  rintro e_ w2866 ⟨rfl, hS⟩
  replace HS : Aside0 (Sep FF w [b8 g2845 g2847 a2855 a2856 a2857 a2858, b7 g2847 A2850 l2849.length n2852 a2854, r6 A2850 l2849.length n2852 l2849] w2866) := ⟨HS.out.call hS⟩
  clear hS
  go_wp2_with fail
  replace HS : Aside0 (Sep FF w [r6 A2850 l2849.length n2852 l2849, b8 g2845 g2847 a2855 a2856 a2857 a2858, b7 g2847 A2850 l2849.length n2852 a2854] w2866) := ⟨HS.out.front 2 (by simp)⟩
  replace HS : Aside0 (Sep FF w [b7 g2847 A2850 l2849.length n2852 a2854, r6 A2850 l2849.length n2852 l2849, b8 g2845 g2847 a2855 a2856 a2857 a2858] w2866) := ⟨HS.out.front 2 (by simp)⟩
  obtain ⟨t2887, HA2888, H⟩ := bind_some H
  refine (store_Store_Peek.calls l2849 a2854 t2864 g2847 A2850 l2849.length n2852 t2887 _ ⟨HGl0.out.pass HS.out⟩ ⟨HS.out.begin⟩ HA2888).mono ?_
  rintro e_ w2889 ⟨rfl, hS⟩
  replace HS : Aside0 (Sep FF w [b7 g2847 A2850 l2849.length n2852 a2854, r6 A2850 l2849.length n2852 l2849, b8 g2845 g2847 a2855 a2856 a2857 a2858] w2889) := ⟨HS.out.call hS⟩
  clear hS
  go_wp2_with fail
  go_ret
  rw [← some_eq H]
  exact ⟨(by first | rfl | (simp [IntKind.wrap_u32]; done)), ((((HS.out).front 1 (by simp)).front 1 (by simp)).front 2 (by simp)).keep (l := [b8 g2845 g2847 a2855 a2856 a2857 a2858, b7 g2847 A2850 l2849.length n2852 a2854, r6 A2850 l2849.length n2852 l2849]) (rest := [])⟩

set_option maxHeartbeats 30000000 in
set_option maxRecDepth 100000 in
theorem pack_Get.calls (a2906 : Int) (a2907 : Int) (a2908 : Int) (r : Int) (w : World)  (HGl0 : Aside0 (Gl 0 #[.int .i64 0, .int .i64 0, .int .i64 0, .int .i64 0, .int .i64 0] (fps []) w)) (HS : Aside0 (Sep (fps []) w [] w)) (H : Aside0 (pack_Get.f a2906 a2907 a2908 = some r)) :
    Calls Tryd.prog 20 #[.int .u32 a2906, .int .i64 a2907, .int .i64 a2908] w fun e w' => e = .returned (.int .u32 r) ∧ Sep (fps []) w [] w' := by
  unfold pack_Get.f at H
  go_enter Tryd.func20, Tryd.ntmps20
  go_wp2_with fail
  obtain ⟨t2909, HA2910, H⟩ := bind_some H
  refine (pack_isPiece.calls a2907 a2908 t2909 _ ⟨HGl0.out.pass (l := []) HS.out⟩ ⟨Sep.start _⟩ HA2910).mono ?_
  rintro e_ w2911 ⟨rfl, hS⟩
  replace HS : Aside0 (Sep (fps []) w [] w2911) := ⟨HS.out.call hS⟩
  clear hS
  by_cases c2912 : t2909 = true
  · replace H := if_yes c2912 H
    have c2912b0 : t2909 = true := c2912
    have c2912b1 : (!t2909) = false := by rw [c2912b0]; rfl
    try rw [c2912b1]
    clear c2912
    go_wp2_with fail
    obtain ⟨t2913, HA2914, H⟩ := bind_some H
    refine (pack_mask.calls a2907 a2908 t2913 _ ⟨HGl0.out.pass (l := []) HS.out⟩ ⟨Sep.start _⟩ HA2914).mono ?_
    rintro e_ w2915 ⟨rfl, hS⟩
    replace HS : Aside0 (Sep (fps []) w [] w2915) := ⟨HS.out.call hS⟩
    clear hS
    by_cases c2916 : 0 ≤ (IntKind.u64.wrap (a2907))
    · replace H := if_yes c2916 H
      have c2916b0 : decide (0 ≤ (IntKind.u64.wrap (a2907))) = true := decide_eq_true c2916
      skip
      go_wp2_with fail
      clear c2916
      go_ret
      rw [← some_eq H]
      exact ⟨(by first | rfl | (simp [IntKind.wrap_u32]; done)), HS.out⟩
    · replace H := if_no c2916 H
      have c2916b0 : decide (0 ≤ (IntKind.u64.wrap (a2907))) = false := decide_eq_false c2916
      exact (none_no H).elim
  · replace H := if_no c2912 H
    have c2912b0 : t2909 = false := by simpa using c2912
    have c2912b1 : (!t2909) = true := by rw [c2912b0]; rfl
    try rw [c2912b1]
    clear c2912
    go_wp2_with fail
    go_ret
    rw [← some_eq H]
    exact ⟨(by first | rfl | (simp [IntKind.wrap_u32]; done)), HS.out⟩

set_option maxHeartbeats 30000000 in
set_option maxRecDepth 100000 in
theorem tag_Unpack_1.calls (a2900 : Int) (a2901 : Int) (a2904 : Int) (g2903 : Nat) (r : Int) (w : World)  (HGl0 : Aside0 (Gl 0 #[.int .i64 0, .int .i64 0, .int .i64 0, .int .i64 0, .int .i64 0] (fps [b19 g2903 a2904]) w)) (HS : Aside0 (Sep (fps [b19 g2903 a2904]) w [b19 g2903 a2904] w)) (H : Aside0 (tag_Unpack_1.f a2900 a2901 a2904 = some r)) :
    Calls Tryd.prog 74 #[.int .i64 a2900, .int .i64 a2901, .pointer (some ⟨g2903, 0, none⟩)] w fun e w' => e = .returned (.int .i64 r) ∧ Sep (fps [b19 g2903 a2904]) w [b19 g2903 a2904] w' := by
  generalize (fps [b19 g2903 a2904]) = FF at HS HGl0 ⊢
  unfold tag_Unpack_1.f at H
  go_enter Tryd.func74, Tryd.ntmps74
  have hc2905 : w.cell? ⟨g2903, 0, none⟩ = some (.int .u32 a2904) := blk_cellv (HS.out.at0) 0 rfl
  go_wp2_with fail
  clear hc2905
  obtain ⟨t2917, HA2918, H⟩ := bind_some H
  refine (pack_Get.calls a2904 a2900 a2901 t2917 _ ⟨HGl0.out.pass (l := []) HS.out⟩ ⟨Sep.start _⟩ HA2918).mono ?_
  rintro e_ w2919 ⟨rfl, hS⟩
  replace HS : Aside0 (Sep FF w [b19 g2903 a2904] w2919) := ⟨HS.out.call hS⟩
  clear hS
  go_wp2_with fail
  go_ret
  rw [← some_eq H]
  exact ⟨(by first | rfl | (simp [IntKind.wrap_u32]; done)), HS.out⟩

set_option maxHeartbeats 30000000 in
set_option maxRecDepth 100000 in
theorem tag_Unpack.calls (a2893 : Int) (r : Int × Int × Int × Int × Int × Int × Int) (w : World)  (HGl0 : Aside0 (Gl 0 #[.int .i64 0, .int .i64 0, .int .i64 0, .int .i64 0, .int .i64 0] (fps []) w)) (HS : Aside0 (Sep (fps []) w [] w)) (H : Aside0 (tag_Unpack.f a2893 = some r)) :
    Calls Tryd.prog 19 #[.int .u32 a2893] w fun e w' => e = .returned (.agg #[.int .i64 r.1, .int .i64 r.2.1, .int .i64 r.2.2.1, .int .i64 r.2.2.2.1, .int .i64 r.2.2.2.2.1, .int .i64 r.2.2.2.2.2.1, .int .i64 r.2.2.2.2.2.2]) ∧ Sep (fps []) w [] w' := by
  unfold tag_Unpack.f at H
  go_enter Tryd.func19, Tryd.ntmps19
  go_wp2_with (first | ((with_reducible refine gate_dst (N := 1) rfl ?_); refine box_on ?hg (N := 1) ?hd (cs := #[.int .u32 a2893]) (t := 33) ?hr ?_; (case hd => rfl); (case hg => rfl); (case hr => first | (go_simp; done) | (go_simp; rfl)); intro g2894 hg w2895 hbox hb; replace HS : Aside0 (Sep (fps []) w [b19 g2894 a2893] w2895) := ⟨HS.out.box hg hbox hb⟩; clear hg hbox hb) | ((with_reducible refine gate_dst (N := 2) rfl ?_); refine box_on ?hg (N := 2) ?hd (cs := #[.int .i64 0, .int .i64 0, .int .i64 0, .int .i64 0, .int .i64 0, .int .i64 0, .int .i64 0]) (t := 32) ?hr ?_; (case hd => rfl); (case hg => rfl); (case hr => first | (go_simp; done) | (go_simp; rfl)); intro g2897 hg w2898 hbox hb; replace HS : Aside0 (Sep (fps []) w [b19 g2894 a2893, b17 g2897 0 0 0 0 0 0 0] w2898) := ⟨HS.out.box hg hbox hb⟩; clear hg hbox hb))
  obtain ⟨t2920, HA2921, H⟩ := bind_some H
  refine (tag_Unpack_1.calls 0 2 a2893 g2894 t2920 _ ⟨HGl0.out.pass HS.out⟩ ⟨HS.out.begin⟩ HA2921).mono ?_
  rintro e_ w2922 ⟨rfl, hS⟩
  replace HS : Aside0 (Sep (fps []) w [b19 g2894 a2893, b17 g2897 0 0 0 0 0 0 0] w2922) := ⟨HS.out.call hS⟩
  clear hS
  go_wp2_with fail
  obtain ⟨t2923, HA2924, H⟩ := bind_some H
  refine (tag_Unpack_1.calls 2 1 a2893 g2894 t2923 _ ⟨HGl0.out.pass HS.out⟩ ⟨HS.out.begin⟩ HA2924).mono ?_
  rintro e_ w2925 ⟨rfl, hS⟩
  replace HS : Aside0 (Sep (fps []) w [b19 g2894 a2893, b17 g2897 0 0 0 0 0 0 0] w2925) := ⟨HS.out.call hS⟩
  clear hS
  go_wp2_with fail
  obtain ⟨t2926, HA2927, H⟩ := bind_some H
  refine (tag_Unpack_1.calls 3 1 a2893 g2894 t2926 _ ⟨HGl0.out.pass HS.out⟩ ⟨HS.out.begin⟩ HA2927).mono ?_
  rintro e_ w2928 ⟨rfl, hS⟩
  replace HS : Aside0 (Sep (fps []) w [b19 g2894 a2893, b17 g2897 0 0 0 0 0 0 0] w2928) := ⟨HS.out.call hS⟩
  clear hS
  go_wp2_with fail
  obtain ⟨t2929, HA2930, H⟩ := bind_some H
  refine (tag_Unpack_1.calls 4 1 a2893 g2894 t2929 _ ⟨HGl0.out.pass HS.out⟩ ⟨HS.out.begin⟩ HA2930).mono ?_
  rintro e_ w2931 ⟨rfl, hS⟩
  replace HS : Aside0 (Sep (fps []) w [b19 g2894 a2893, b17 g2897 0 0 0 0 0 0 0] w2931) := ⟨HS.out.call hS⟩
  clear hS
  go_wp2_with fail
  obtain ⟨t2932, HA2933, H⟩ := bind_some H
  refine (tag_Unpack_1.calls 5 1 a2893 g2894 t2932 _ ⟨HGl0.out.pass HS.out⟩ ⟨HS.out.begin⟩ HA2933).mono ?_
  rintro e_ w2934 ⟨rfl, hS⟩
  replace HS : Aside0 (Sep (fps []) w [b19 g2894 a2893, b17 g2897 0 0 0 0 0 0 0] w2934) := ⟨HS.out.call hS⟩
  clear hS
  go_wp2_with fail
  obtain ⟨t2935, HA2936, H⟩ := bind_some H
  refine (tag_Unpack_1.calls 6 1 a2893 g2894 t2935 _ ⟨HGl0.out.pass HS.out⟩ ⟨HS.out.begin⟩ HA2936).mono ?_
  rintro e_ w2937 ⟨rfl, hS⟩
  replace HS : Aside0 (Sep (fps []) w [b19 g2894 a2893, b17 g2897 0 0 0 0 0 0 0] w2937) := ⟨HS.out.call hS⟩
  clear hS
  go_wp2_with fail
  obtain ⟨t2938, HA2939, H⟩ := bind_some H
  refine (tag_Unpack_1.calls 8 24 a2893 g2894 t2938 _ ⟨HGl0.out.pass HS.out⟩ ⟨HS.out.begin⟩ HA2939).mono ?_
  rintro e_ w2940 ⟨rfl, hS⟩
  replace HS : Aside0 (Sep (fps []) w [b19 g2894 a2893, b17 g2897 0 0 0 0 0 0 0] w2940) := ⟨HS.out.call hS⟩
  clear hS
  have hc2941 : w2940.cell? ⟨g2897, 0, none⟩ = some (.int .i64 0) := blk_cellv (HS.out.at1) 0 rfl
  have hz2942 : w2940.frozen? ⟨g2897, 0, none⟩ = false := blk_fz (HS.out.at1) 0
  have hc2943 : w2940.cell? ⟨g2897, 1, none⟩ = some (.int .i64 0) := blk_cellv (HS.out.at1) 1 rfl
  have hz2944 : w2940.frozen? ⟨g2897, 1, none⟩ = false := blk_fz (HS.out.at1) 1
  have hc2945 : w2940.cell? ⟨g2897, 2, none⟩ = some (.int .i64 0) := blk_cellv (HS.out.at1) 2 rfl
  have hz2946 : w2940.frozen? ⟨g2897, 2, none⟩ = false := blk_fz (HS.out.at1) 2
  have hc2947 : w2940.cell? ⟨g2897, 3, none⟩ = some (.int .i64 0) := blk_cellv (HS.out.at1) 3 rfl
  have hz2948 : w2940.frozen? ⟨g2897, 3, none⟩ = false := blk_fz (HS.out.at1) 3
  have hc2949 : w2940.cell? ⟨g2897, 4, none⟩ = some (.int .i64 0) := blk_cellv (HS.out.at1) 4 rfl
  have hz2950 : w2940.frozen? ⟨g2897, 4, none⟩ = false := blk_fz (HS.out.at1) 4
  have hc2951 : w2940.cell? ⟨g2897, 5, none⟩ = some (.int .i64 0) := blk_cellv (HS.out.at1) 5 rfl
  have hz2952 : w2940.frozen? ⟨g2897, 5, none⟩ = false := blk_fz (HS.out.at1) 5
  have hc2953 : w2940.cell? ⟨g2897, 6, none⟩ = some (.int .i64 0) := blk_cellv (HS.out.at1) 6 rfl
  have hz2954 : w2940.frozen? ⟨g2897, 6, none⟩ = false := blk_fz (HS.out.at1) 6
  go_wp2_with (first | ((with_reducible refine gate_store (t := 32) (p := 2) rfl ?_); refine store_event (w1 := (World.setCell (World.setCell (World.setCell (World.setCell (World.setCell (World.setCell (World.setCell w2940 ⟨g2897, 0, none⟩ (.int .i64 t2920)) ⟨g2897, 1, none⟩ (.int .i64 t2923)) ⟨g2897, 2, none⟩ (.int .i64 t2926)) ⟨g2897, 3, none⟩ (.int .i64 t2929)) ⟨g2897, 4, none⟩ (.int .i64 t2932)) ⟨g2897, 5, none⟩ (.int .i64 t2935)) ⟨g2897, 6, none⟩ (.int .i64 t2938))) rfl (t := 32) (p := 2) rfl rfl ?hr ?_; (case hr => first | (go_simp; done) | (go_simp; rfl)); intro w2955 hst; clear hc2941 hz2942 hc2943 hz2944 hc2945 hz2946 hc2947 hz2948 hc2949 hz2950 hc2951 hz2952 hc2953 hz2954; replace HS : Aside0 (Sep (fps []) w [b19 g2894 a2893, b17 g2897 t2920 t2923 t2926 t2929 t2932 t2935 t2938] w2955) := ⟨by rw [hst]; exact HS.out.setAll (l1 := [b19 g2894 a2893]) (l2 := []) [.int .i64 t2920, .int .i64 t2923, .int .i64 t2926, .int .i64 t2929, .int .i64 t2932, .int .i64 t2935, .int .i64 t2938] rfl⟩; clear hst; replace HS : Aside0 (Sep (fps []) w [b17 g2897 t2920 t2923 t2926 t2929 t2932 t2935 t2938] w2955) := ⟨HS.out.sub (.cons _ (.cons_cons _ .slnil))⟩))
  have hc2956 : w2955.cell? ⟨g2897, 0, none⟩ = some (.int .i64 t2920) := blk_cellv (HS.out.at0) 0 rfl
  have hc2957 : w2955.cell? ⟨g2897, 1, none⟩ = some (.int .i64 t2923) := blk_cellv (HS.out.at0) 1 rfl
  have hc2958 : w2955.cell? ⟨g2897, 2, none⟩ = some (.int .i64 t2926) := blk_cellv (HS.out.at0) 2 rfl
  have hc2959 : w2955.cell? ⟨g2897, 3, none⟩ = some (.int .i64 t2929) := blk_cellv (HS.out.at0) 3 rfl
  have hc2960 : w2955.cell? ⟨g2897, 4, none⟩ = some (.int .i64 t2932) := blk_cellv (HS.out.at0) 4 rfl
  have hc2961 : w2955.cell? ⟨g2897, 5, none⟩ = some (.int .i64 t2935) := blk_cellv (HS.out.at0) 5 rfl
  have hc2962 : w2955.cell? ⟨g2897, 6, none⟩ = some (.int .i64 t2938) := blk_cellv (HS.out.at0) 6 rfl
  refine bodyPost_ret (v := .agg #[.int .i64 t2920, .int .i64 t2923, .int .i64 t2926, .int .i64 t2929, .int .i64 t2932, .int .i64 t2935, .int .i64 t2938]) (by simp [results, Tryd.results19, go_sem, hc2956, hc2957, hc2958, hc2959, hc2960, hc2961, hc2962]) rfl ?_
  rw [← some_eq H]
  exact ⟨(by first | rfl | (simp [IntKind.wrap_u32]; done)), HS.out.sub (.cons _ .slnil)⟩

set_option maxHeartbeats 30000000 in
set_option maxRecDepth 100000 in
theorem obj_isHead.calls (a2967 : Int) (r : Bool) (w : World)  (HGl0 : Aside0 (Gl 0 #[.int .i64 0, .int .i64 0, .int .i64 0, .int .i64 0, .int .i64 0] (fps []) w)) (HS : Aside0 (Sep (fps []) w [] w)) (H : Aside0 (obj_isHead.f a2967 = some r)) :
    Calls Tryd.prog 101 #[.int .i64 a2967] w fun e w' => e = .returned (.bool r) ∧ Sep (fps []) w [] w' := by
  unfold obj_isHead.f at H
  go_enter Tryd.func101, Tryd.ntmps101
  by_cases c2968 : a2967 = 1
  · replace H := if_yes c2968 H
    have c2968b0 : (a2967 == 1) = true := beq_iff_eq.mpr c2968
    have c2968b1 : (a2967 != 1) = false := bne_eq_false_iff_eq.mpr c2968
    clear c2968
    go_wp2_with fail
    go_ret
    rw [← some_eq H]
    exact ⟨(by first | rfl | (simp [IntKind.wrap_u32]; done)), HS.out⟩
  · replace H := if_no c2968 H
    have c2968b0 : (a2967 == 1) = false := beq_eq_false_iff_ne.mpr c2968
    have c2968b1 : (a2967 != 1) = true := bne_iff_ne.mpr c2968
    clear c2968
    go_wp2_with fail
    go_ret
    rw [← some_eq H]
    exact ⟨(by first | rfl | (simp [IntKind.wrap_u32]; done)), HS.out⟩

set_option maxHeartbeats 30000000 in
set_option maxRecDepth 100000 in
theorem shape_Place.calls (k : Nat) (a3025 : Int) (a3026 : Int) (a3027 : Int) (r : Int × Int × Int) (w : World)  (HGl0 : Aside0 (Gl 0 #[.int .i64 0, .int .i64 0, .int .i64 0, .int .i64 0, .int .i64 0] (fps []) w)) (HS : Aside0 (Sep (fps []) w [] w)) (H : Aside0 (shape_Place.f k a3025 a3026 a3027 = some r)) :
    Calls Tryd.prog 137 #[.int .i64 a3025, .int .i64 a3026, .int .i64 a3027] w fun e w' => e = .returned (.tuple #[.int .i64 r.1, .int .i64 r.2.1, .int .i64 r.2.2]) ∧ Sep (fps []) w [] w' := by
  unfold shape_Place.f at H
  go_enter Tryd.func137, Tryd.ntmps137
  go_wp2_with (first | ((with_reducible refine gate_dst (N := 12) rfl ?_); refine slice_on (n := 1) ?hg (N := 12) ?hd (cs := #[.int .i64 a3026]) (t := 3) ?hr ?_; (case hd => rfl); (case hg => rfl); (case hr => first | (go_simp; done) | (go_simp; rfl)); intro g3028 hg w3029 hbox hb; replace HS : Aside0 (Sep (fps []) w [b11 g3028 a3026] w3029) := ⟨HS.out.box hg hbox hb⟩; clear hg hbox hb))
  obtain ⟨t3031, HA3032, H⟩ := bind_some H
  refine (shape_wrong.calls _ a3025 [a3026] (some ⟨g3028, 0, none⟩) 1 t3031 _ ⟨Rd.lit (l := []) (xs := [a3026]) HS.out 0 rfl (by simp)⟩ ⟨HGl0.out.pass (l := []) HS.out⟩ ⟨Sep.start _⟩ HA3032).mono ?_
  rintro e_ w3033 ⟨rfl, hS⟩
  replace HS : Aside0 (Sep (fps []) w [b11 g3028 a3026] w3033) := ⟨HS.out.call hS⟩
  clear hS
  by_cases c3034 : t3031 = 0
  · replace H := if_yes c3034 H
    have c3034b0 : (t3031 == 0) = true := beq_iff_eq.mpr c3034
    have c3034b1 : (t3031 != 0) = false := bne_eq_false_iff_eq.mpr c3034
    clear c3034
    by_cases c3035 : a3027 < 0
    · replace H := if_yes c3035 H
      have c3035b0 : decide (a3027 < 0) = true := decide_eq_true c3035
      clear c3035
      replace HS : Aside0 (Sep (fps []) w [] w3033) := ⟨HS.out.sub (.cons _ .slnil)⟩
      go_wp2_with fail
      go_ret3
      rw [← some_eq H]
      exact ⟨(by first | rfl | (simp [IntKind.wrap_u32]; done)), HS.out⟩
    · replace H := if_no c3035 H
      have c3035b0 : decide (a3027 < 0) = false := decide_eq_false c3035
      clear c3035
      by_cases c3036 : a3027 ≥ a3026
      · replace H := if_yes c3036 H
        have c3036b0 : decide (a3026 ≤ a3027) = true := decide_eq_true c3036
        clear c3036
        replace HS : Aside0 (Sep (fps []) w [] w3033) := ⟨HS.out.sub (.cons _ .slnil)⟩
        go_wp2_with fail
        go_ret3
        rw [← some_eq H]
        exact ⟨(by first | rfl | (simp [IntKind.wrap_u32]; done)), HS.out⟩
      · replace H := if_no c3036 H
        have c3036b0 : decide (a3026 ≤ a3027) = false := decide_eq_false c3036
        clear c3036
        replace HS : Aside0 (Sep (fps []) w [] w3033) := ⟨HS.out.sub (.cons _ .slnil)⟩
        go_wp2_with fail
        obtain ⟨t3037, HA3038, H⟩ := bind_some H
        refine (shape_leaves.calls a3025 a3026 t3037 _ ⟨HGl0.out.pass (l := []) HS.out⟩ ⟨Sep.start _⟩ HA3038).mono ?_
        rintro e_ w3039 ⟨rfl, hS⟩
        replace HS : Aside0 (Sep (fps []) w [] w3039) := ⟨HS.out.call hS⟩
        clear hS
        by_cases c3040 : t3037 = 0
        · replace H := if_yes c3040 H
          have c3040b0 : (t3037 == 0) = true := beq_iff_eq.mpr c3040
          have c3040b1 : (t3037 != 0) = false := bne_eq_false_iff_eq.mpr c3040
          clear c3040
          go_wp2_with fail
          go_ret3
          rw [← some_eq H]
          exact ⟨(by first | rfl | (simp [IntKind.wrap_u32]; done)), HS.out⟩
        · replace H := if_no c3040 H
          have c3040b0 : (t3037 == 0) = false := beq_eq_false_iff_ne.mpr c3040
          have c3040b1 : (t3037 != 0) = true := bne_iff_ne.mpr c3040
          clear c3040
          go_wp2_with fail
          refine start_ (n := 12) (S := (fun _ => True)) (ds := []) #[false, false, false, false, false, false, false, false, false, false, false, false] (by kernel_rfl) rfl rfl (trivial) (fun hHeld => ?_)
          have HS_ := Aside0.mk HS.out.drew
          clear HS
          generalize World.drew _ = w3042 at HS_ hHeld ⊢
          have HS := HS_
          clear HS_
          refine pure_ (i := 0) (N := some 32) (v := ?_) (a' := ?_) #[true, false, false, false, false, false, false, false, false, false, false, false] rfl rfl (by kernel_rfl) (fun _ _ _ h => h) (Or.inl ⟨by rfl, ?_⟩) ?_ ?_
          rotate_left
          · intro w'
            go_simp
            with_reducible rfl
          rotate_left
          · simp only [Act.put, List.setIfInBounds_toArray, List.set_cons_zero, List.set_cons_succ, i64_w, i32_w]
            rfl
          refine pure_ (i := 1) (N := some 33) (v := ?_) (a' := ?_) #[true, true, false, false, false, false, false, false, false, false, false, false] rfl rfl (by kernel_rfl) (fun _ _ _ h => h) (Or.inl ⟨by rfl, ?_⟩) ?_ ?_
          rotate_left
          · intro w'
            go_simp
            with_reducible rfl
          rotate_left
          · simp only [Act.put, List.setIfInBounds_toArray, List.set_cons_zero, List.set_cons_succ, i64_w, i32_w]
            rfl
          refine pure_ (i := 4) (N := some 36) (v := ?_) (a' := ?_) #[true, true, false, false, true, false, false, false, false, false, false, false] rfl rfl (by kernel_rfl) (fun _ _ _ h => h) (Or.inl ⟨by rfl, ?_⟩) ?_ ?_
          rotate_left
          · intro w'
            go_simp
            with_reducible rfl
          rotate_left
          · simp only [Act.put, List.setIfInBounds_toArray, List.set_cons_zero, List.set_cons_succ, i64_w, i32_w]
            rfl
          refine pure_ (i := 5) (N := some 37) (v := ?_) (a' := ?_) #[true, true, false, false, true, true, false, false, false, false, false, false] rfl rfl (by kernel_rfl) (fun _ _ _ h => h) (Or.inl ⟨by rfl, ?_⟩) ?_ ?_
          rotate_left
          · intro w'
            go_simp
            with_reducible rfl
          rotate_left
          · simp only [Act.put, List.setIfInBounds_toArray, List.set_cons_zero, List.set_cons_succ, i64_w, i32_w]
            rfl
          refine one_ (i := 2) (N := some 34) #[true, true, true, false, true, true, false, false, false, false, false, false] rfl rfl (by kernel_rfl) (by decide) (fun K hK => ?_)
          obtain ⟨t3043, HA3044, H⟩ := bind_some H
          refine goes_ Tryd.func120 (by kernel_rfl) rfl #[.int .i64 a3025] (by rfl) rfl rfl (by (try simp only [List.map_toArray, List.map_cons, List.map_nil]); first | done | rfl) ?_
          refine (shape_inLeaf.calls a3025 t3043 _ ⟨HGl0.out.pass (l := []) HS.out⟩ ⟨Sep.start _⟩ HA3044).mono ?_
          rintro e_ w3045 ⟨rfl, hS⟩
          replace HS : Aside0 (Sep (fps []) w [] w3045) := ⟨HS.out.call hS⟩
          clear hS
          refine ⟨_, rfl, ?_⟩
          refine hK.out _ _ (trivial) (fun hHeld => ?_)
          clear hK K
          refine norm_ (a' := ?_) ?_ ?_
          rotate_left
          · show Act.put _ (some 34) _ = _
            simp only [Act.put, List.setIfInBounds_toArray, List.set_cons_zero, List.set_cons_succ, i64_w, i32_w]
            rfl
          by_cases c3046 : t3043 = 0
          · replace H := if_yes c3046 H
            have c3046b0 : (t3043 == 0) = true := beq_iff_eq.mpr c3046
            have c3046b1 : (t3043 != 0) = false := bne_eq_false_iff_eq.mpr c3046
            exact (none_no H).elim
          · replace H := if_no c3046 H
            have c3046b0 : (t3043 == 0) = false := beq_eq_false_iff_ne.mpr c3046
            have c3046b1 : (t3043 != 0) = true := bne_iff_ne.mpr c3046
            refine pure_ (i := 3) (N := some 35) (v := ?_) (a' := ?_) #[true, true, true, true, true, true, false, false, false, false, false, false] rfl rfl (by kernel_rfl) (fun _ _ _ h => h) (Or.inl ⟨by rfl, ?_⟩) ?_ ?_
            rotate_left
            · intro w'
              go_simp
              with_reducible rfl
            rotate_left
            · simp only [Act.put, List.setIfInBounds_toArray, List.set_cons_zero, List.set_cons_succ, i64_w, i32_w]
              rfl
            refine one_ (i := 6) (N := some 38) #[true, true, true, true, true, true, true, false, false, false, false, false] rfl rfl (by kernel_rfl) (by decide) (fun K hK => ?_)
            obtain ⟨t3047, HA3048, H⟩ := bind_some H
            refine goes_ Tryd.func120 (by kernel_rfl) rfl #[.int .i64 a3025] (by rfl) rfl rfl (by (try simp only [List.map_toArray, List.map_cons, List.map_nil]); first | done | rfl) ?_
            refine (shape_inLeaf.calls a3025 t3047 _ ⟨HGl0.out.pass (l := []) HS.out⟩ ⟨Sep.start _⟩ HA3048).mono ?_
            rintro e_ w3049 ⟨rfl, hS⟩
            replace HS : Aside0 (Sep (fps []) w [] w3049) := ⟨HS.out.call hS⟩
            clear hS
            refine ⟨_, rfl, ?_⟩
            refine hK.out _ _ (trivial) (fun hHeld => ?_)
            clear hK K
            refine norm_ (a' := ?_) ?_ ?_
            rotate_left
            · show Act.put _ (some 38) _ = _
              simp only [Act.put, List.setIfInBounds_toArray, List.set_cons_zero, List.set_cons_succ, i64_w, i32_w]
              rfl
            by_cases c3050 : t3047 = 0
            · replace H := if_yes c3050 H
              have c3050b0 : (t3047 == 0) = true := beq_iff_eq.mpr c3050
              have c3050b1 : (t3047 != 0) = false := bne_eq_false_iff_eq.mpr c3050
              exact (none_no H).elim
            · replace H := if_no c3050 H
              have c3050b0 : (t3047 == 0) = false := beq_eq_false_iff_ne.mpr c3050
              have c3050b1 : (t3047 != 0) = true := bne_iff_ne.mpr c3050
              refine pure_ (i := 7) (N := some 39) (v := ?_) (a' := ?_) #[true, true, true, true, true, true, true, true, false, false, false, false] rfl rfl (by kernel_rfl) (fun _ _ _ h => h) (Or.inl ⟨by rfl, ?_⟩) ?_ ?_
              rotate_left
              · intro w'
                go_simp
                with_reducible rfl
              rotate_left
              · simp only [Act.put, List.setIfInBounds_toArray, List.set_cons_zero, List.set_cons_succ, i64_w, i32_w]
                rfl
              refine pure_ (i := 8) (N := some 40) (v := ?_) (a' := ?_) #[true, true, true, true, true, true, true, true, true, false, false, false] rfl rfl (by kernel_rfl) (fun _ _ _ h => h) (Or.inl ⟨by rfl, ?_⟩) ?_ ?_
              rotate_left
              · intro w'
                go_simp
                with_reducible rfl
              rotate_left
              · simp only [Act.put, List.setIfInBounds_toArray, List.set_cons_zero, List.set_cons_succ, i64_w, i32_w]
                rfl
              refine pure_ (i := 9) (N := some 6) (v := ?_) (a' := ?_) #[true, true, true, true, true, true, true, true, true, true, false, false] rfl rfl (by kernel_rfl) (fun _ _ _ h => h) (Or.inl ⟨by rfl, ?_⟩) ?_ ?_
              rotate_left
              · intro w'
                go_simp
                with_reducible rfl
              rotate_left
              · simp only [Act.put, List.setIfInBounds_toArray, List.set_cons_zero, List.set_cons_succ, i64_w, i32_w]
                rfl
              refine pure_ (i := 10) (N := some 7) (v := ?_) (a' := ?_) #[true, true, true, true, true, true, true, true, true, true, true, false] rfl rfl (by kernel_rfl) (fun _ _ _ h => h) (Or.inl ⟨by rfl, ?_⟩) ?_ ?_
              rotate_left
              · intro w'
                go_simp
                with_reducible rfl
              rotate_left
              · simp only [Act.put, List.setIfInBounds_toArray, List.set_cons_zero, List.set_cons_succ, i64_w, i32_w]
                rfl
              refine pure_ (i := 11) (N := some 8) (v := ?_) (a' := ?_) #[true, true, true, true, true, true, true, true, true, true, true, true] rfl rfl (by kernel_rfl) (fun _ _ _ h => h) (Or.inl ⟨by rfl, ?_⟩) ?_ ?_
              rotate_left
              · intro w'
                go_simp
                with_reducible rfl
              rotate_left
              · simp only [Act.put, List.setIfInBounds_toArray, List.set_cons_zero, List.set_cons_succ, i64_w, i32_w]
                rfl
              refine done_ (by kernel_rfl) ?_
              skip
              skip
              go_wp2_with fail
              clear c3046 c3050
              go_ret3
              rw [← some_eq H]
              exact ⟨(by first | rfl | (simp [IntKind.wrap_u32]; done)), HS.out⟩
  · replace H := if_no c3034 H
    have c3034b0 : (t3031 == 0) = false := beq_eq_false_iff_ne.mpr c3034
    have c3034b1 : (t3031 != 0) = true := bne_iff_ne.mpr c3034
    clear c3034
    replace HS : Aside0 (Sep (fps []) w [] w3033) := ⟨HS.out.sub (.cons _ .slnil)⟩
    go_wp2_with fail
    go_ret3
    rw [← some_eq H]
    exact ⟨(by first | rfl | (simp [IntKind.wrap_u32]; done)), HS.out⟩

set_option maxHeartbeats 30000000 in
set_option maxRecDepth 100000 in
theorem obj_look.calls (k : Nat) (l3008 : List Int) (a3013 : Int) (a3014 : Int) (a3015 : Int) (a3016 : Int) (a3017 : Int) (a3018 : Int) (a3019 : Int) (a3020 : Int) (g3004 : Nat) (g3006 : Nat) (A3009 : Option Addr) (m3010 : Nat) (n3011 : Nat) (r : Int) (w : World)  (HGl0 : Aside0 (Gl 0 #[.int .i64 0, .int .i64 0, .int .i64 0, .int .i64 0, .int .i64 0] (fps [b8 g3004 g3006 a3014 a3015 a3016 a3017, b7 g3006 A3009 m3010 n3011 a3013, r6 A3009 m3010 n3011 l3008]) w)) (HS : Aside0 (Sep (fps [b8 g3004 g3006 a3014 a3015 a3016 a3017, b7 g3006 A3009 m3010 n3011 a3013, r6 A3009 m3010 n3011 l3008]) w [b8 g3004 g3006 a3014 a3015 a3016 a3017, b7 g3006 A3009 m3010 n3011 a3013, r6 A3009 m3010 n3011 l3008] w)) (H : Aside0 (obj_look.f k l3008 a3013 a3014 a3015 a3016 a3017 a3018 a3019 a3020 = some r)) :
    Calls Tryd.prog 102 #[.pointer (some ⟨g3004, 0, none⟩), .int .i64 a3018, .int .i64 a3019, .int .i64 a3020] w fun e w' => e = .returned (.int .u32 r) ∧ Sep (fps [b8 g3004 g3006 a3014 a3015 a3016 a3017, b7 g3006 A3009 m3010 n3011 a3013, r6 A3009 m3010 n3011 l3008]) w [b8 g3004 g3006 a3014 a3015 a3016 a3017, b7 g3006 A3009 m3010 n3011 a3013, r6 A3009 m3010 n3011 l3008] w' := by
  generalize (fps [b8 g3004 g3006 a3014 a3015 a3016 a3017, b7 g3006 A3009 m3010 n3011 a3013, r6 A3009 m3010 n3011 l3008]) = FF at HS HGl0 ⊢
  obtain rfl := (row_len (HS.out.at2)).symm
  unfold obj_look.f at H
  go_enter Tryd.func102, Tryd.ntmps102
  go_wp2_with fail
  obtain ⟨t3021, HA3022, H⟩ := bind_some H
  refine (ground_Ground_Conf.calls l3008 a3013 a3014 a3015 a3016 a3017 g3004 g3006 A3009 l3008.length n3011 t3021 _ ⟨HGl0.out.pass HS.out⟩ ⟨HS.out.begin⟩ HA3022).mono ?_
  rintro e_ w3023 ⟨rfl, hS⟩
  replace HS : Aside0 (Sep FF w [b8 g3004 g3006 a3014 a3015 a3016 a3017, b7 g3006 A3009 l3008.length n3011 a3013, r6 A3009 l3008.length n3011 l3008] w3023) := ⟨HS.out.call hS⟩
  clear hS
  have fl3024 : ∀ w, (Instr.field 30 (.agg #[.int .i64 t3021.1, .int .i64 t3021.2.1, .int .i64 t3021.2.2.1, .int .i64 t3021.2.2.2]) 1).run Tryd.prog w = .ok (.int .i64 t3021.2.1) w := fun _ => by kernel_rfl
  go_wp2_with fail
  clear fl3024
  obtain ⟨t3051, HA3052, H⟩ := bind_some H
  refine (shape_Place.calls _ t3021.2.1 a3019 a3020 t3051 _ ⟨HGl0.out.pass (l := []) HS.out⟩ ⟨Sep.start _⟩ HA3052).mono ?_
  rintro e_ w3053 ⟨rfl, hS⟩
  replace HS : Aside0 (Sep FF w [b8 g3004 g3006 a3014 a3015 a3016 a3017, b7 g3006 A3009 l3008.length n3011 a3013, r6 A3009 l3008.length n3011 l3008] w3053) := ⟨HS.out.call hS⟩
  clear hS
  by_cases c3054 : t3051.2.2 = 0
  · replace H := if_yes c3054 H
    have c3054b0 : (t3051.2.2 == 0) = true := beq_iff_eq.mpr c3054
    have c3054b1 : (t3051.2.2 != 0) = false := bne_eq_false_iff_eq.mpr c3054
    clear c3054
    by_cases c3055 : t3051.1 < 0
    · replace H := if_yes c3055 H
      have c3055b0 : decide (t3051.1 < 0) = true := decide_eq_true c3055
      clear c3055
      go_wp2_with fail
      obtain ⟨t3056, HA3057, H⟩ := bind_some H
      refine (ground_Ground_SeeWord.calls l3008 a3013 a3014 a3015 a3016 a3017 (wrap64 (a3018 - 1)) t3051.2.1 g3004 g3006 A3009 l3008.length n3011 t3056 _ ⟨HGl0.out.pass HS.out⟩ ⟨HS.out.begin⟩ HA3057).mono ?_
      rintro e_ w3058 ⟨rfl, hS⟩
      replace HS : Aside0 (Sep FF w [b8 g3004 g3006 a3014 a3015 a3016 a3017, b7 g3006 A3009 l3008.length n3011 a3013, r6 A3009 l3008.length n3011 l3008] w3058) := ⟨HS.out.call hS⟩
      clear hS
      go_wp2_with fail
      go_ret
      rw [← some_eq H]
      exact ⟨(by first | rfl | (simp [IntKind.wrap_u32]; done)), HS.out⟩
    · replace H := if_no c3055 H
      have c3055b0 : decide (t3051.1 < 0) = false := decide_eq_false c3055
      clear c3055
      go_wp2_with fail
      obtain ⟨t3059, HA3060, H⟩ := bind_some H
      refine (ground_Ground_SeeWord.calls l3008 a3013 a3014 a3015 a3016 a3017 (wrap64 (a3018 - 1)) (wrap64 (8 + t3051.1)) g3004 g3006 A3009 l3008.length n3011 t3059 _ ⟨HGl0.out.pass HS.out⟩ ⟨HS.out.begin⟩ HA3060).mono ?_
      rintro e_ w3061 ⟨rfl, hS⟩
      replace HS : Aside0 (Sep FF w [b8 g3004 g3006 a3014 a3015 a3016 a3017, b7 g3006 A3009 l3008.length n3011 a3013, r6 A3009 l3008.length n3011 l3008] w3061) := ⟨HS.out.call hS⟩
      clear hS
      go_wp2_with fail
      obtain ⟨t3062, HA3063, H⟩ := bind_some H
      refine (ground_Ground_SeeWord.calls l3008 a3013 a3014 a3015 a3016 a3017 (wrap64 ((wrap64 (t3059)) - 1)) t3051.2.1 g3004 g3006 A3009 l3008.length n3011 t3062 _ ⟨HGl0.out.pass HS.out⟩ ⟨HS.out.begin⟩ HA3063).mono ?_
      rintro e_ w3064 ⟨rfl, hS⟩
      replace HS : Aside0 (Sep FF w [b8 g3004 g3006 a3014 a3015 a3016 a3017, b7 g3006 A3009 l3008.length n3011 a3013, r6 A3009 l3008.length n3011 l3008] w3064) := ⟨HS.out.call hS⟩
      clear hS
      go_wp2_with fail
      go_ret
      rw [← some_eq H]
      exact ⟨(by first | rfl | (simp [IntKind.wrap_u32]; done)), HS.out⟩
  · replace H := if_no c3054 H
    have c3054b0 : (t3051.2.2 == 0) = false := beq_eq_false_iff_ne.mpr c3054
    have c3054b1 : (t3051.2.2 != 0) = true := bne_iff_ne.mpr c3054
    clear c3054
    go_wp2_with fail
    go_ret
    rw [← some_eq H]
    exact ⟨(by first | rfl | (simp [IntKind.wrap_u32]; done)), HS.out⟩

set_option maxHeartbeats 30000000 in
set_option maxRecDepth 100000 in
theorem obj_See.calls (k : Nat) (l2801 : List Int) (a2806 : Int) (a2807 : Int) (a2808 : Int) (a2809 : Int) (a2810 : Int) (a2811 : Int) (g2797 : Nat) (g2799 : Nat) (A2802 : Option Addr) (m2803 : Nat) (n2804 : Nat) (r : Bool × List Int × List Int) (w : World)  (HGl0 : Aside0 (Gl 0 #[.int .i64 0, .int .i64 0, .int .i64 0, .int .i64 0, .int .i64 0] (fps [b8 g2797 g2799 a2807 a2808 a2809 a2810, b7 g2799 A2802 m2803 n2804 a2806, r6 A2802 m2803 n2804 l2801]) w)) (HS : Aside0 (Sep (fps [b8 g2797 g2799 a2807 a2808 a2809 a2810, b7 g2799 A2802 m2803 n2804 a2806, r6 A2802 m2803 n2804 l2801]) w [b8 g2797 g2799 a2807 a2808 a2809 a2810, b7 g2799 A2802 m2803 n2804 a2806, r6 A2802 m2803 n2804 l2801] w)) (H : Aside0 (obj_See.f k l2801 a2806 a2807 a2808 a2809 a2810 a2811 = some r)) :
    Calls Tryd.prog 36 #[.pointer (some ⟨g2797, 0, none⟩), .int .i64 a2811] w fun e w' => ∃ (A3338 : Option Addr) (m3339 : Nat) (n3340 : Nat) (A3342 : Option Addr) (m3343 : Nat) (n3344 : Nat), e = .returned (.tuple #[.agg #[.slice A3338 m3339 n3340, .slice A3342 m3343 n3344], .bool r.1]) ∧ Sep (fps [b8 g2797 g2799 a2807 a2808 a2809 a2810, b7 g2799 A2802 m2803 n2804 a2806, r6 A2802 m2803 n2804 l2801]) w [b8 g2797 g2799 a2807 a2808 a2809 a2810, b7 g2799 A2802 m2803 n2804 a2806, r6 A2802 m2803 n2804 l2801, r12 A3338 m3339 n3340 r.2.1, r6 A3342 m3343 n3344 r.2.2] w' := by
  generalize (fps [b8 g2797 g2799 a2807 a2808 a2809 a2810, b7 g2799 A2802 m2803 n2804 a2806, r6 A2802 m2803 n2804 l2801]) = FF at HS HGl0 ⊢
  obtain rfl := (row_len (HS.out.at2)).symm
  unfold obj_See.f at H
  go_enter Tryd.func36, Tryd.ntmps36
  go_wp2_with (first | ((with_reducible refine gate_dst (N := 4) rfl ?_); refine box_on ?hg (N := 4) ?hd (cs := #[.slice none 0 0, .slice none 0 0]) (t := 71) ?hr ?_; (case hd => rfl); (case hg => rfl); (case hr => first | (go_simp; done) | (go_simp; rfl)); intro g2812 hg w2813 hbox hb; replace HS : Aside0 (Sep FF w [b8 g2797 g2799 a2807 a2808 a2809 a2810, b7 g2799 A2802 l2801.length n2804 a2806, r6 A2802 l2801.length n2804 l2801, b22 g2812] w2813) := ⟨HS.out.box hg hbox hb⟩; clear hg hbox hb; replace HS : Aside0 (Sep FF w [r12 none 0 0 [], b8 g2797 g2799 a2807 a2808 a2809 a2810, b7 g2799 A2802 l2801.length n2804 a2806, r6 A2802 l2801.length n2804 l2801, b23 g2812 none 0 0] w2813) := ⟨HS.out.nilrow 3 (Value.int .i64)⟩; replace HS : Aside0 (Sep FF w [r6 none 0 0 [], r12 none 0 0 [], b8 g2797 g2799 a2807 a2808 a2809 a2810, b7 g2799 A2802 l2801.length n2804 a2806, r6 A2802 l2801.length n2804 l2801, b24 g2812 none 0 0 none 0 0] w2813) := ⟨HS.out.nilrow 33 (Value.int .u32)⟩))
  replace HS : Aside0 (Sep FF w [r6 A2802 l2801.length n2804 l2801, r6 none 0 0 [], r12 none 0 0 [], b8 g2797 g2799 a2807 a2808 a2809 a2810, b7 g2799 A2802 l2801.length n2804 a2806, b24 g2812 none 0 0 none 0 0] w2813) := ⟨HS.out.front 4 (by simp)⟩
  replace HS : Aside0 (Sep FF w [b7 g2799 A2802 l2801.length n2804 a2806, r6 A2802 l2801.length n2804 l2801, r6 none 0 0 [], r12 none 0 0 [], b8 g2797 g2799 a2807 a2808 a2809 a2810, b24 g2812 none 0 0 none 0 0] w2813) := ⟨HS.out.front 4 (by simp)⟩
  replace HS : Aside0 (Sep FF w [b8 g2797 g2799 a2807 a2808 a2809 a2810, b7 g2799 A2802 l2801.length n2804 a2806, r6 A2802 l2801.length n2804 l2801, r6 none 0 0 [], r12 none 0 0 [], b24 g2812 none 0 0 none 0 0] w2813) := ⟨HS.out.front 4 (by simp)⟩
  obtain ⟨t2840, HA2841, H⟩ := bind_some H
  refine (obj_in.calls l2801 a2806 a2807 a2808 a2809 a2810 a2811 g2797 g2799 A2802 l2801.length n2804 t2840 _ ⟨HGl0.out.pass HS.out⟩ ⟨HS.out.begin⟩ HA2841).mono ?_
  rintro e_ w2842 ⟨rfl, hS⟩
  replace HS : Aside0 (Sep FF w [b8 g2797 g2799 a2807 a2808 a2809 a2810, b7 g2799 A2802 l2801.length n2804 a2806, r6 A2802 l2801.length n2804 l2801, r6 none 0 0 [], r12 none 0 0 [], b24 g2812 none 0 0 none 0 0] w2842) := ⟨HS.out.call hS⟩
  clear hS
  by_cases c2843 : t2840 = true
  · replace H := if_yes c2843 H
    have c2843b0 : t2840 = true := c2843
    have c2843b1 : (!t2840) = false := by rw [c2843b0]; rfl
    try rw [c2843b1]
    clear c2843
    go_wp2_with fail
    obtain ⟨t2890, HA2891, H⟩ := bind_some H
    refine (ground_Ground_SeeWord.calls l2801 a2806 a2807 a2808 a2809 a2810 (wrap64 (a2811 - 1)) 0 g2797 g2799 A2802 l2801.length n2804 t2890 _ ⟨HGl0.out.pass HS.out⟩ ⟨HS.out.begin⟩ HA2891).mono ?_
    rintro e_ w2892 ⟨rfl, hS⟩
    replace HS : Aside0 (Sep FF w [b8 g2797 g2799 a2807 a2808 a2809 a2810, b7 g2799 A2802 l2801.length n2804 a2806, r6 A2802 l2801.length n2804 l2801, r6 none 0 0 [], r12 none 0 0 [], b24 g2812 none 0 0 none 0 0] w2892) := ⟨HS.out.call hS⟩
    clear hS
    go_wp2_with fail
    obtain ⟨t2963, HA2964, H⟩ := bind_some H
    refine (tag_Unpack.calls t2890 t2963 _ ⟨HGl0.out.pass (l := []) HS.out⟩ ⟨Sep.start _⟩ HA2964).mono ?_
    rintro e_ w2965 ⟨rfl, hS⟩
    replace HS : Aside0 (Sep FF w [b8 g2797 g2799 a2807 a2808 a2809 a2810, b7 g2799 A2802 l2801.length n2804 a2806, r6 A2802 l2801.length n2804 l2801, r6 none 0 0 [], r12 none 0 0 [], b24 g2812 none 0 0 none 0 0] w2965) := ⟨HS.out.call hS⟩
    clear hS
    have fl2966 : ∀ w, (Instr.field 32 (.agg #[.int .i64 t2963.1, .int .i64 t2963.2.1, .int .i64 t2963.2.2.1, .int .i64 t2963.2.2.2.1, .int .i64 t2963.2.2.2.2.1, .int .i64 t2963.2.2.2.2.2.1, .int .i64 t2963.2.2.2.2.2.2]) 0).run Tryd.prog w = .ok (.int .i64 t2963.1) w := fun _ => by kernel_rfl
    go_wp2_with fail
    clear fl2966
    obtain ⟨t2969, HA2970, H⟩ := bind_some H
    refine (obj_isHead.calls t2963.1 t2969 _ ⟨HGl0.out.pass (l := []) HS.out⟩ ⟨Sep.start _⟩ HA2970).mono ?_
    rintro e_ w2971 ⟨rfl, hS⟩
    replace HS : Aside0 (Sep FF w [b8 g2797 g2799 a2807 a2808 a2809 a2810, b7 g2799 A2802 l2801.length n2804 a2806, r6 A2802 l2801.length n2804 l2801, r6 none 0 0 [], r12 none 0 0 [], b24 g2812 none 0 0 none 0 0] w2971) := ⟨HS.out.call hS⟩
    clear hS
    by_cases c2972 : t2969 = true
    · replace H := if_yes c2972 H
      have c2972b0 : t2969 = true := c2972
      have c2972b1 : (!t2969) = false := by rw [c2972b0]; rfl
      try rw [c2972b1]
      clear c2972
      go_wp2_with fail
      obtain ⟨t2973, HA2974, H⟩ := bind_some H
      refine (ground_Ground_SeeWord.calls l2801 a2806 a2807 a2808 a2809 a2810 (wrap64 (a2811 - 1)) 1 g2797 g2799 A2802 l2801.length n2804 t2973 _ ⟨HGl0.out.pass HS.out⟩ ⟨HS.out.begin⟩ HA2974).mono ?_
      rintro e_ w2975 ⟨rfl, hS⟩
      replace HS : Aside0 (Sep FF w [b8 g2797 g2799 a2807 a2808 a2809 a2810, b7 g2799 A2802 l2801.length n2804 a2806, r6 A2802 l2801.length n2804 l2801, r6 none 0 0 [], r12 none 0 0 [], b24 g2812 none 0 0 none 0 0] w2975) := ⟨HS.out.call hS⟩
      clear hS
      go_wp2_with fail
      obtain ⟨t2976, HA2977, H⟩ := bind_some H
      refine (ground_Ground_SeeWord.calls l2801 a2806 a2807 a2808 a2809 a2810 (wrap64 (a2811 - 1)) 2 g2797 g2799 A2802 l2801.length n2804 t2976 _ ⟨HGl0.out.pass HS.out⟩ ⟨HS.out.begin⟩ HA2977).mono ?_
      rintro e_ w2978 ⟨rfl, hS⟩
      replace HS : Aside0 (Sep FF w [b8 g2797 g2799 a2807 a2808 a2809 a2810, b7 g2799 A2802 l2801.length n2804 a2806, r6 A2802 l2801.length n2804 l2801, r6 none 0 0 [], r12 none 0 0 [], b24 g2812 none 0 0 none 0 0] w2978) := ⟨HS.out.call hS⟩
      clear hS
      go_wp2_with fail
      obtain ⟨t2979, HA2980, H⟩ := bind_some H
      refine (ground_Ground_Conf.calls l2801 a2806 a2807 a2808 a2809 a2810 g2797 g2799 A2802 l2801.length n2804 t2979 _ ⟨HGl0.out.pass HS.out⟩ ⟨HS.out.begin⟩ HA2980).mono ?_
      rintro e_ w2981 ⟨rfl, hS⟩
      replace HS : Aside0 (Sep FF w [b8 g2797 g2799 a2807 a2808 a2809 a2810, b7 g2799 A2802 l2801.length n2804 a2806, r6 A2802 l2801.length n2804 l2801, r6 none 0 0 [], r12 none 0 0 [], b24 g2812 none 0 0 none 0 0] w2981) := ⟨HS.out.call hS⟩
      clear hS
      have fl2982 : ∀ w, (Instr.field 30 (.agg #[.int .i64 t2979.1, .int .i64 t2979.2.1, .int .i64 t2979.2.2.1, .int .i64 t2979.2.2.2]) 1).run Tryd.prog w = .ok (.int .i64 t2979.2.1) w := fun _ => by kernel_rfl
      go_wp2_with fail
      clear fl2982
      obtain ⟨t2983, HA2984, H⟩ := bind_some H
      refine (shape_Blocks.calls _ t2979.2.1 (wrap64 (t2973)) (wrap64 (t2976)) t2983 _ ⟨HGl0.out.pass (l := []) HS.out⟩ ⟨Sep.start _⟩ HA2984).mono ?_
      rintro e_ w2985 ⟨rfl, hS⟩
      replace HS : Aside0 (Sep FF w [b8 g2797 g2799 a2807 a2808 a2809 a2810, b7 g2799 A2802 l2801.length n2804 a2806, r6 A2802 l2801.length n2804 l2801, r6 none 0 0 [], r12 none 0 0 [], b24 g2812 none 0 0 none 0 0] w2985) := ⟨HS.out.call hS⟩
      clear hS
      by_cases c2986 : t2983.2 = 0
      · replace H := if_yes c2986 H
        have c2986b0 : (t2983.2 == 0) = true := beq_iff_eq.mpr c2986
        have c2986b1 : (t2983.2 != 0) = false := bne_eq_false_iff_eq.mpr c2986
        clear c2986
        go_wp2_with (first | ((with_reducible refine gate_dst (N := 10) rfl ?_); refine box_on ?hg (N := 10) ?hd (cs := #[.slice none 0 0, .slice none 0 0]) (t := 71) ?hr ?_; (case hd => rfl); (case hg => rfl); (case hr => first | (go_simp; done) | (go_simp; rfl)); intro g2987 hg w2988 hbox hb; replace HS : Aside0 (Sep FF w [b8 g2797 g2799 a2807 a2808 a2809 a2810, b7 g2799 A2802 l2801.length n2804 a2806, r6 A2802 l2801.length n2804 l2801, r6 none 0 0 [], r12 none 0 0 [], b24 g2812 none 0 0 none 0 0, b22 g2987] w2988) := ⟨HS.out.box hg hbox hb⟩; clear hg hbox hb; replace HS : Aside0 (Sep FF w [r12 none 0 0 [], b8 g2797 g2799 a2807 a2808 a2809 a2810, b7 g2799 A2802 l2801.length n2804 a2806, r6 A2802 l2801.length n2804 l2801, r6 none 0 0 [], r12 none 0 0 [], b24 g2812 none 0 0 none 0 0, b23 g2987 none 0 0] w2988) := ⟨HS.out.nilrow 3 (Value.int .i64)⟩; replace HS : Aside0 (Sep FF w [r6 none 0 0 [], r12 none 0 0 [], b8 g2797 g2799 a2807 a2808 a2809 a2810, b7 g2799 A2802 l2801.length n2804 a2806, r6 A2802 l2801.length n2804 l2801, r6 none 0 0 [], r12 none 0 0 [], b24 g2812 none 0 0 none 0 0, b24 g2987 none 0 0 none 0 0] w2988) := ⟨HS.out.nilrow 33 (Value.int .u32)⟩))
        obtain ⟨o3080, AL3081, H⟩ := bind_some H
        go_loopg [51] k (fun kq v51 wc => ∃ (x3084 : Int) (x3085 : List Int) (A3086 : Option Addr) (m3087 : Nat) (n3088 : Nat), v51 = .int .i64 x3084 ∧ Aside0 (obj_See.lo0 kq l2801 a2806 a2807 a2808 a2809 a2810 a2811 t2973 t2976 x3084 x3085 = some o3080) ∧ Aside0 (Sep FF w [r6 none 0 0 [], r12 A3086 m3087 n3088 x3085, b8 g2797 g2799 a2807 a2808 a2809 a2810, b7 g2799 A2802 l2801.length n2804 a2806, r6 A2802 l2801.length n2804 l2801, r6 none 0 0 [], r12 none 0 0 [], b24 g2812 none 0 0 none 0 0, b24 g2987 A3086 m3087 n3088 none 0 0] wc))
        case atStart => exact ⟨(0), (([] : List Int)), (none), (0), (0), (by first | rfl | (simp [IntKind.wrap_u32]; done)), AL3081, ⟨HS.out⟩⟩
        case round =>
          clear AL3081 HS
          obtain ⟨x3084, x3085, A3086, m3087, n3088, rfl, AL3081, HS⟩ := hrel
          obtain ⟨w3082, rfl⟩ : ∃ x : World, x = wr := ⟨_, rfl⟩
          obtain rfl := (row_len (HS.out.at1)).symm
          cases gk with
          | zero => exact absurd AL3081.out (by simp [obj_See.lo0])
          | succ k3083 =>
            have AL0 := AL3081.out
            rw [obj_See.lo0] at AL0
            clear AL3081
            have AL3081 := Aside0.mk AL0
            clear AL0
            by_cases c3090 : x3084 < (wrap64 (t2973))
            · replace AL3081 := if_yes c3090 AL3081
              have c3090b0 : decide (x3084 < (wrap64 (t2973))) = true := decide_eq_true c3090
              clear c3090
              go_wp2_with fail
              refine start_ (n := 14) (S := (fun w' => w'.cell? ⟨g2987, 0, none⟩ = some (.slice A3086 x3085.length n3088))) (ds := [13]) #[false, false, false, false, false, false, false, false, false, false, false, false, false, false] (by kernel_rfl) rfl rfl (blk_cellv ((HS.out.drew).at8) 0 rfl) (fun hHeld => ?_)
              have HS_ := Aside0.mk HS.out.drew
              clear HS
              generalize World.drew _ = w3092 at HS_ hHeld ⊢
              have HS := HS_
              clear HS_
              refine pure_ (i := 0) (N := some 54) (v := ?_) (a' := ?_) #[true, false, false, false, false, false, false, false, false, false, false, false, false, false] rfl rfl (by kernel_rfl) (fun _ _ _ h => h) (Or.inl ⟨by rfl, ?_⟩) ?_ ?_
              rotate_left
              · intro w'
                go_simp
                with_reducible rfl
              rotate_left
              · simp only [Act.put, List.setIfInBounds_toArray, List.set_cons_zero, List.set_cons_succ, i64_w, i32_w]
                rfl
              refine pure_ (i := 2) (N := some 56) (v := ?_) (a' := ?_) #[true, false, true, false, false, false, false, false, false, false, false, false, false, false] rfl rfl (by kernel_rfl) (fun _ _ _ h => h) (Or.inl ⟨by rfl, ?_⟩) ?_ ?_
              rotate_left
              · intro w'
                go_simp
                with_reducible rfl
              rotate_left
              · simp only [Act.put, List.setIfInBounds_toArray, List.set_cons_zero, List.set_cons_succ, i64_w, i32_w]
                rfl
              refine pure_ (i := 3) (N := some 57) (v := ?_) (a' := ?_) #[true, false, true, true, false, false, false, false, false, false, false, false, false, false] rfl rfl (by kernel_rfl) (fun _ _ _ h => h) (Or.inl ⟨by rfl, ?_⟩) ?_ ?_
              rotate_left
              · intro w'
                go_simp
                with_reducible rfl
              rotate_left
              · simp only [Act.put, List.setIfInBounds_toArray, List.set_cons_zero, List.set_cons_succ, i64_w, i32_w]
                rfl
              refine pure_ (i := 4) (N := some 58) (v := ?_) (a' := ?_) #[true, false, true, true, true, false, false, false, false, false, false, false, false, false] rfl rfl (by kernel_rfl) (fun _ _ _ h => h) (Or.inl ⟨by rfl, ?_⟩) ?_ ?_
              rotate_left
              · intro w'
                go_simp
                with_reducible rfl
              rotate_left
              · simp only [Act.put, List.setIfInBounds_toArray, List.set_cons_zero, List.set_cons_succ, i64_w, i32_w]
                rfl
              refine pure_ (i := 5) (N := some 59) (v := ?_) (a' := ?_) #[true, false, true, true, true, true, false, false, false, false, false, false, false, false] rfl rfl (by kernel_rfl) (fun _ _ _ h => h) (Or.inl ⟨by rfl, ?_⟩) ?_ ?_
              rotate_left
              · intro w'
                go_simp
                with_reducible rfl
              rotate_left
              · simp only [Act.put, List.setIfInBounds_toArray, List.set_cons_zero, List.set_cons_succ, i64_w, i32_w]
                rfl
              refine pure_ (i := 6) (N := some 60) (v := ?_) (a' := ?_) #[true, false, true, true, true, true, true, false, false, false, false, false, false, false] rfl rfl (by kernel_rfl) (fun _ _ _ h => h) (Or.inl ⟨by rfl, ?_⟩) ?_ ?_
              rotate_left
              · intro w'
                go_simp
                with_reducible rfl
              rotate_left
              · simp only [Act.put, List.setIfInBounds_toArray, List.set_cons_zero, List.set_cons_succ, i64_w, i32_w]
                rfl
              refine pure_ (i := 7) (N := some 61) (v := ?_) (a' := ?_) #[true, false, true, true, true, true, true, true, false, false, false, false, false, false] rfl rfl (by kernel_rfl) (fun _ _ _ h => h) (Or.inl ⟨by rfl, ?_⟩) ?_ ?_
              rotate_left
              · intro w'
                go_simp
                with_reducible rfl
              rotate_left
              · simp only [Act.put, List.setIfInBounds_toArray, List.set_cons_zero, List.set_cons_succ, i64_w, i32_w]
                rfl
              refine take_ (i := 1) (N := some 55) (v := ?_) (a' := ?_) #[true, true, true, true, true, true, true, true, false, false, false, false, false, false] rfl rfl (by kernel_rfl) (fun _ _ _ h => h) (Or.inl ⟨by rfl, ?_⟩) hHeld ?_ ?_
              rotate_left
              · rintro w' hS'
                have s0 := hS'
                go_simp
                with_reducible rfl
              rotate_left
              · simp only [Act.put, List.setIfInBounds_toArray, List.set_cons_zero, List.set_cons_succ, i64_w, i32_w]
                rfl
              refine one_ (i := 8) (N := some 62) #[true, true, true, true, true, true, true, true, true, false, false, false, false, false] rfl rfl (by kernel_rfl) (by decide) (fun K hK => ?_)
              replace HS : Aside0 (Sep FF w [r6 A2802 l2801.length n2804 l2801, r6 none 0 0 [], r12 A3086 x3085.length n3088 x3085, b8 g2797 g2799 a2807 a2808 a2809 a2810, b7 g2799 A2802 l2801.length n2804 a2806, r6 none 0 0 [], r12 none 0 0 [], b24 g2812 none 0 0 none 0 0, b24 g2987 A3086 x3085.length n3088 none 0 0] w3092) := ⟨HS.out.front 4 (by simp)⟩
              replace HS : Aside0 (Sep FF w [b7 g2799 A2802 l2801.length n2804 a2806, r6 A2802 l2801.length n2804 l2801, r6 none 0 0 [], r12 A3086 x3085.length n3088 x3085, b8 g2797 g2799 a2807 a2808 a2809 a2810, r6 none 0 0 [], r12 none 0 0 [], b24 g2812 none 0 0 none 0 0, b24 g2987 A3086 x3085.length n3088 none 0 0] w3092) := ⟨HS.out.front 4 (by simp)⟩
              replace HS : Aside0 (Sep FF w [b8 g2797 g2799 a2807 a2808 a2809 a2810, b7 g2799 A2802 l2801.length n2804 a2806, r6 A2802 l2801.length n2804 l2801, r6 none 0 0 [], r12 A3086 x3085.length n3088 x3085, r6 none 0 0 [], r12 none 0 0 [], b24 g2812 none 0 0 none 0 0, b24 g2987 A3086 x3085.length n3088 none 0 0] w3092) := ⟨HS.out.front 4 (by simp)⟩
              obtain ⟨t3065, HA3093, AL3081⟩ := bind_some AL3081
              refine goes_ Tryd.func102 (by kernel_rfl) rfl #[.pointer (some ⟨g2797, 0, none⟩), .int .i64 a2811, .int .i64 (wrap64 ((wrap64 (t2973)) + (wrap64 (t2976)))), .int .i64 x3084] (by rfl) rfl rfl (by (try simp only [List.map_toArray, List.map_cons, List.map_nil]); first | done | rfl) ?_
              refine (obj_look.calls _ l2801 a2806 a2807 a2808 a2809 a2810 a2811 (wrap64 ((wrap64 (t2973)) + (wrap64 (t2976)))) x3084 g2797 g2799 A2802 l2801.length n2804 t3065 _ ⟨HGl0.out.pass HS.out⟩ ⟨HS.out.begin⟩ HA3093).mono ?_
              rintro e_ w3094 ⟨rfl, hS⟩
              replace HS : Aside0 (Sep FF w [b8 g2797 g2799 a2807 a2808 a2809 a2810, b7 g2799 A2802 l2801.length n2804 a2806, r6 A2802 l2801.length n2804 l2801, r6 none 0 0 [], r12 A3086 x3085.length n3088 x3085, r6 none 0 0 [], r12 none 0 0 [], b24 g2812 none 0 0 none 0 0, b24 g2987 A3086 x3085.length n3088 none 0 0] w3094) := ⟨HS.out.call hS⟩
              clear hS
              refine ⟨_, rfl, ?_⟩
              refine hK.out _ _ (blk_cellv (HS.out.at8) 0 rfl) (fun hHeld => ?_)
              clear hK K
              refine norm_ (a' := ?_) ?_ ?_
              rotate_left
              · show Act.put _ (some 62) _ = _
                simp only [Act.put, List.setIfInBounds_toArray, List.set_cons_zero, List.set_cons_succ, i64_w, i32_w]
                rfl
              refine pure_ (i := 9) (N := some 63) (v := ?_) (a' := ?_) #[true, true, true, true, true, true, true, true, true, true, false, false, false, false] rfl rfl (by kernel_rfl) (fun _ _ _ h => h) (Or.inl ⟨by rfl, ?_⟩) ?_ ?_
              rotate_left
              · intro w'
                go_simp
                with_reducible rfl
              rotate_left
              · simp only [Act.put, List.setIfInBounds_toArray, List.set_cons_zero, List.set_cons_succ, i64_w, i32_w]
                rfl
              refine one_ (i := 10) (N := some 64) #[true, true, true, true, true, true, true, true, true, true, true, false, false, false] rfl rfl (by kernel_rfl) (by decide) (fun K hK => ?_)
              refine slice_step (n := 1) (by rfl) (N := 64) rfl (cs := #[.int .i64 (wrap64 (t3065))]) (t := 3) ?hr ?_
              case hr => first | (go_simp; done) | (go_simp; rfl)
              intro g3095 hg w3096 hbox hb
              replace HS : Aside0 (Sep FF w [b8 g2797 g2799 a2807 a2808 a2809 a2810, b7 g2799 A2802 l2801.length n2804 a2806, r6 A2802 l2801.length n2804 l2801, r6 none 0 0 [], r12 A3086 x3085.length n3088 x3085, r6 none 0 0 [], r12 none 0 0 [], b24 g2812 none 0 0 none 0 0, b24 g2987 A3086 x3085.length n3088 none 0 0, b11 g3095 (wrap64 (t3065))] w3096) := ⟨HS.out.box hg hbox hb⟩
              clear hg hbox hb
              refine hK.out _ _ (blk_cellv (HS.out.at8) 0 rfl) (fun hHeld => ?_)
              clear hK K
              refine norm_ (a' := ?_) ?_ ?_
              rotate_left
              · show Act.put _ (some 64) _ = _
                simp only [Act.put, List.setIfInBounds_toArray, List.set_cons_zero, List.set_cons_succ, i64_w, i32_w]
                rfl
              refine one_ (i := 11) (N := some 65) #[true, true, true, true, true, true, true, true, true, true, true, true, false, false] rfl rfl (by kernel_rfl) (by decide) (fun K hK => ?_)
              by_cases c3098 : x3085.length < 17592186044416
              · replace AL3081 := if_yes c3098 AL3081
                have c3098b0 : decide (x3085.length < 17592186044416) = true := decide_eq_true c3098
                clear c3098
                obtain ⟨y3074, HA3102, AL3081⟩ := bind_some AL3081
                refine append_step (l1 := [b8 g2797 g2799 a2807 a2808 a2809 a2810, b7 g2799 A2802 l2801.length n2804 a2806, r6 A2802 l2801.length n2804 l2801, r6 none 0 0 []]) (l2 := [r6 none 0 0 [], r12 none 0 0 [], b24 g2812 none 0 0 none 0 0, b24 g2987 A3086 x3085.length n3088 none 0 0, b11 g3095 (wrap64 (t3065))]) (by rfl) (.tmp 55) (.tmp 64) 49 3 (.int .i64 0) 8 rfl Tryd.underlying49 (by kernel_rfl) rfl (by decide) (Value.int .i64) (fun _ => rfl) (.slice A3086 x3085.length n3088) (x3085 : List Int) [wrap64 (t3065)] ⟨g3095, 0, none⟩ 1 rfl rfl (blk_news (xs := [wrap64 (t3065)]) (HS.out.nth 9 rfl)) HS.out (by have := of_decide_eq_true c3098b0; simp only [List.length_cons, List.length_nil]; omega) HA3102 ?_
                intro A3099 n3100 w3101 HS1
                replace HS : Aside0 (Sep FF w [b8 g2797 g2799 a2807 a2808 a2809 a2810, b7 g2799 A2802 l2801.length n2804 a2806, r6 A2802 l2801.length n2804 l2801, r6 none 0 0 [], r12 A3099 y3074.length n3100 y3074, r6 none 0 0 [], r12 none 0 0 [], b24 g2812 none 0 0 none 0 0, b24 g2987 A3086 x3085.length n3088 none 0 0, b11 g3095 (wrap64 (t3065))] w3101) := ⟨HS1⟩
                clear HS1
                refine hK.out _ _ (blk_cellv (HS.out.at8) 0 rfl) (fun hHeld => ?_)
                clear hK K
                refine norm_ (a' := ?_) ?_ ?_
                rotate_left
                · show Act.put _ (some 65) _ = _
                  simp only [Act.put, List.setIfInBounds_toArray, List.set_cons_zero, List.set_cons_succ, i64_w, i32_w]
                  rfl
                refine pure_ (i := 12) (N := some 66) (v := ?_) (a' := ?_) #[true, true, true, true, true, true, true, true, true, true, true, true, true, false] rfl rfl (by kernel_rfl) (fun _ _ _ h => h) (Or.inl ⟨by rfl, ?_⟩) ?_ ?_
                rotate_left
                · intro w'
                  go_simp
                  with_reducible rfl
                rotate_left
                · simp only [Act.put, List.setIfInBounds_toArray, List.set_cons_zero, List.set_cons_succ, i64_w, i32_w]
                  rfl
                refine last_ (i := 13) (N := none) #[true, true, true, true, true, true, true, true, true, true, true, true, true, true] rfl rfl (by kernel_rfl) (by decide) (fun K hK => ?_)
                have hc3105 := blk_cellv (v := .slice A3086 x3085.length n3088) (HS.out.at8) 0 rfl
                have hz3106 := blk_fz (HS.out.at8) 0
                refine store_step (w1 := (World.setCell w3101 ⟨g2987, 0, none⟩ (.slice A3099 y3074.length n3100))) (by rfl) rfl ?hr ?_
                case hr => first | (go_simp; done) | (go_simp; rfl)
                clear hc3105 hz3106
                intro w3104 hst
                have hq0 : Sep FF w [b8 g2797 g2799 a2807 a2808 a2809 a2810, b7 g2799 A2802 l2801.length n2804 a2806, r6 A2802 l2801.length n2804 l2801, r6 none 0 0 [], r12 A3099 y3074.length n3100 y3074, r6 none 0 0 [], r12 none 0 0 [], b24 g2812 none 0 0 none 0 0, b24 g2987 A3099 y3074.length n3100 none 0 0, b11 g3095 (wrap64 (t3065))] (World.setCell w3101 ⟨g2987, 0, none⟩ (.slice A3099 y3074.length n3100)) := (HS.out).set1 (l1 := [b8 g2797 g2799 a2807 a2808 a2809 a2810, b7 g2799 A2802 l2801.length n2804 a2806, r6 A2802 l2801.length n2804 l2801, r6 none 0 0 [], r12 A3099 y3074.length n3100 y3074, r6 none 0 0 [], r12 none 0 0 [], b24 g2812 none 0 0 none 0 0]) (l2 := [b11 g3095 (wrap64 (t3065))]) 0 (.slice A3099 y3074.length n3100)
                have HS_ : Aside0 (Sep FF w [b8 g2797 g2799 a2807 a2808 a2809 a2810, b7 g2799 A2802 l2801.length n2804 a2806, r6 A2802 l2801.length n2804 l2801, r6 none 0 0 [], r12 A3099 y3074.length n3100 y3074, r6 none 0 0 [], r12 none 0 0 [], b24 g2812 none 0 0 none 0 0, b24 g2987 A3099 y3074.length n3100 none 0 0, b11 g3095 (wrap64 (t3065))] w3104) := ⟨by rw [hst]; exact hq0⟩
                clear hq0
                clear HS hst
                have HS := HS_
                clear HS_
                refine hK.out _ _ ?_
                clear hK K
                refine done_ (by kernel_rfl) ?_
                replace HS : Aside0 (Sep FF w [b8 g2797 g2799 a2807 a2808 a2809 a2810, b7 g2799 A2802 l2801.length n2804 a2806, r6 A2802 l2801.length n2804 l2801, r6 none 0 0 [], r12 A3099 y3074.length n3100 y3074, r6 none 0 0 [], r12 none 0 0 [], b24 g2812 none 0 0 none 0 0, b24 g2987 A3099 y3074.length n3100 none 0 0] w3104) := ⟨HS.out.sub (.cons_cons _ (.cons_cons _ (.cons_cons _ (.cons_cons _ (.cons_cons _ (.cons_cons _ (.cons_cons _ (.cons_cons _ (.cons_cons _ (.cons _ .slnil))))))))))⟩
                go_wp2_with fail
                go_roundg k3083
                case measure => exact Nat.lt_succ_self _
                case rel => exact ⟨(wrap64 (x3084 + 1)), (y3074), (A3099), (y3074.length), (n3100), (by first | rfl | (simp [IntKind.wrap_u32]; done)), Aside0.mk AL3081.out, ⟨((((((((((HS.out).front 8 (by simp)).front 8 (by simp)).front 8 (by simp)).front 8 (by simp)).front 6 (by simp)).front 6 (by simp)).front 6 (by simp)).front 8 (by simp)).front 8 (by simp)).keep (l := [r6 none 0 0 [], r12 A3099 y3074.length n3100 y3074, b8 g2797 g2799 a2807 a2808 a2809 a2810, b7 g2799 A2802 l2801.length n2804 a2806, r6 A2802 l2801.length n2804 l2801, r6 none 0 0 [], r12 none 0 0 [], b24 g2812 none 0 0 none 0 0, b24 g2987 A3099 y3074.length n3100 none 0 0]) (rest := [])⟩⟩
              · replace AL3081 := if_no c3098 AL3081
                have c3098b0 : decide (x3085.length < 17592186044416) = false := decide_eq_false c3098
                clear c3098
                exact (none_no AL3081).elim
            · replace AL3081 := if_no c3090 AL3081
              have c3090b0 : decide (x3084 < (wrap64 (t2973))) = false := decide_eq_false c3090
              clear c3090
              have ho := some_eq AL3081
              subst ho
              clear AL3081
              go_wp2_with fail
              obtain ⟨o3131, AL3132, H⟩ := bind_some H
              go_loopg [69] k (fun kq v69 wc => ∃ (x3135 : Int) (x3136 : List Int) (A3137 : Option Addr) (m3138 : Nat) (n3139 : Nat), v69 = .int .i64 x3135 ∧ Aside0 (obj_See.lo1 kq l2801 a2806 a2807 a2808 a2809 a2810 a2811 t2973 t2976 x3135 x3136 = some o3131) ∧ Aside0 (Sep FF w [r6 A3137 m3138 n3139 x3136, r12 A3086 x3085.length n3088 x3085, b8 g2797 g2799 a2807 a2808 a2809 a2810, b7 g2799 A2802 l2801.length n2804 a2806, r6 A2802 l2801.length n2804 l2801, r6 none 0 0 [], r12 none 0 0 [], b24 g2812 none 0 0 none 0 0, b24 g2987 A3086 x3085.length n3088 A3137 m3138 n3139] wc))
              case atStart => exact ⟨(0), (([] : List Int)), (none), (0), (0), (by first | rfl | (simp [IntKind.wrap_u32]; done)), AL3132, ⟨HS.out⟩⟩
              case round =>
                clear AL3132 HS
                obtain ⟨x3135, x3136, A3137, m3138, n3139, rfl, AL3132, HS⟩ := hrel
                obtain ⟨w3133, rfl⟩ : ∃ x : World, x = wr := ⟨_, rfl⟩
                obtain rfl := (row_len (HS.out.at0)).symm
                cases gk with
                | zero => exact absurd AL3132.out (by simp [obj_See.lo1])
                | succ k3134 =>
                  have AL0 := AL3132.out
                  rw [obj_See.lo1] at AL0
                  clear AL3132
                  have AL3132 := Aside0.mk AL0
                  clear AL0
                  by_cases c3141 : x3135 < (wrap64 (t2976))
                  · replace AL3132 := if_yes c3141 AL3132
                    have c3141b0 : decide (x3135 < (wrap64 (t2976))) = true := decide_eq_true c3141
                    clear c3141
                    go_wp2_with fail
                    refine start_ (n := 15) (S := (fun w' => w'.cell? ⟨g2987, 1, none⟩ = some (.slice A3137 x3136.length n3139))) (ds := [14]) #[false, false, false, false, false, false, false, false, false, false, false, false, false, false, false] (by kernel_rfl) rfl rfl (blk_cellv ((HS.out.drew).at8) 1 rfl) (fun hHeld => ?_)
                    have HS_ := Aside0.mk HS.out.drew
                    clear HS
                    generalize World.drew _ = w3143 at HS_ hHeld ⊢
                    have HS := HS_
                    clear HS_
                    refine pure_ (i := 0) (N := some 72) (v := ?_) (a' := ?_) #[true, false, false, false, false, false, false, false, false, false, false, false, false, false, false] rfl rfl (by kernel_rfl) (fun _ _ _ h => h) (Or.inl ⟨by rfl, ?_⟩) ?_ ?_
                    rotate_left
                    · intro w'
                      go_simp
                      with_reducible rfl
                    rotate_left
                    · simp only [Act.put, List.setIfInBounds_toArray, List.set_cons_zero, List.set_cons_succ, i64_w, i32_w]
                      rfl
                    refine pure_ (i := 2) (N := some 74) (v := ?_) (a' := ?_) #[true, false, true, false, false, false, false, false, false, false, false, false, false, false, false] rfl rfl (by kernel_rfl) (fun _ _ _ h => h) (Or.inl ⟨by rfl, ?_⟩) ?_ ?_
                    rotate_left
                    · intro w'
                      go_simp
                      with_reducible rfl
                    rotate_left
                    · simp only [Act.put, List.setIfInBounds_toArray, List.set_cons_zero, List.set_cons_succ, i64_w, i32_w]
                      rfl
                    refine pure_ (i := 3) (N := some 75) (v := ?_) (a' := ?_) #[true, false, true, true, false, false, false, false, false, false, false, false, false, false, false] rfl rfl (by kernel_rfl) (fun _ _ _ h => h) (Or.inl ⟨by rfl, ?_⟩) ?_ ?_
                    rotate_left
                    · intro w'
                      go_simp
                      with_reducible rfl
                    rotate_left
                    · simp only [Act.put, List.setIfInBounds_toArray, List.set_cons_zero, List.set_cons_succ, i64_w, i32_w]
                      rfl
                    refine pure_ (i := 4) (N := some 76) (v := ?_) (a' := ?_) #[true, false, true, true, true, false, false, false, false, false, false, false, false, false, false] rfl rfl (by kernel_rfl) (fun _ _ _ h => h) (Or.inl ⟨by rfl, ?_⟩) ?_ ?_
                    rotate_left
                    · intro w'
                      go_simp
                      with_reducible rfl
                    rotate_left
                    · simp only [Act.put, List.setIfInBounds_toArray, List.set_cons_zero, List.set_cons_succ, i64_w, i32_w]
                      rfl
                    refine pure_ (i := 5) (N := some 77) (v := ?_) (a' := ?_) #[true, false, true, true, true, true, false, false, false, false, false, false, false, false, false] rfl rfl (by kernel_rfl) (fun _ _ _ h => h) (Or.inl ⟨by rfl, ?_⟩) ?_ ?_
                    rotate_left
                    · intro w'
                      go_simp
                      with_reducible rfl
                    rotate_left
                    · simp only [Act.put, List.setIfInBounds_toArray, List.set_cons_zero, List.set_cons_succ, i64_w, i32_w]
                      rfl
                    refine pure_ (i := 6) (N := some 78) (v := ?_) (a' := ?_) #[true, false, true, true, true, true, true, false, false, false, false, false, false, false, false] rfl rfl (by kernel_rfl) (fun _ _ _ h => h) (Or.inl ⟨by rfl, ?_⟩) ?_ ?_
                    rotate_left
                    · intro w'
                      go_simp
                      with_reducible rfl
                    rotate_left
                    · simp only [Act.put, List.setIfInBounds_toArray, List.set_cons_zero, List.set_cons_succ, i64_w, i32_w]
                      rfl
                    refine pure_ (i := 7) (N := some 79) (v := ?_) (a' := ?_) #[true, false, true, true, true, true, true, true, false, false, false, false, false, false, false] rfl rfl (by kernel_rfl) (fun _ _ _ h => h) (Or.inl ⟨by rfl, ?_⟩) ?_ ?_
                    rotate_left
                    · intro w'
                      go_simp
                      with_reducible rfl
                    rotate_left
                    · simp only [Act.put, List.setIfInBounds_toArray, List.set_cons_zero, List.set_cons_succ, i64_w, i32_w]
                      rfl
                    refine pure_ (i := 8) (N := some 80) (v := ?_) (a' := ?_) #[true, false, true, true, true, true, true, true, true, false, false, false, false, false, false] rfl rfl (by kernel_rfl) (fun _ _ _ h => h) (Or.inl ⟨by rfl, ?_⟩) ?_ ?_
                    rotate_left
                    · intro w'
                      go_simp
                      with_reducible rfl
                    rotate_left
                    · simp only [Act.put, List.setIfInBounds_toArray, List.set_cons_zero, List.set_cons_succ, i64_w, i32_w]
                      rfl
                    refine pure_ (i := 9) (N := some 81) (v := ?_) (a' := ?_) #[true, false, true, true, true, true, true, true, true, true, false, false, false, false, false] rfl rfl (by kernel_rfl) (fun _ _ _ h => h) (Or.inl ⟨by rfl, ?_⟩) ?_ ?_
                    rotate_left
                    · intro w'
                      go_simp
                      with_reducible rfl
                    rotate_left
                    · simp only [Act.put, List.setIfInBounds_toArray, List.set_cons_zero, List.set_cons_succ, i64_w, i32_w]
                      rfl
                    refine take_ (i := 1) (N := some 73) (v := ?_) (a' := ?_) #[true, true, true, true, true, true, true, true, true, true, false, false, false, false, false] rfl rfl (by kernel_rfl) (fun _ _ _ h => h) (Or.inl ⟨by rfl, ?_⟩) hHeld ?_ ?_
                    rotate_left
                    · rintro w' hS'
                      have s0 := hS'
                      go_simp
                      with_reducible rfl
                    rotate_left
                    · simp only [Act.put, List.setIfInBounds_toArray, List.set_cons_zero, List.set_cons_succ, i64_w, i32_w]
                      rfl
                    refine one_ (i := 10) (N := some 82) #[true, true, true, true, true, true, true, true, true, true, true, false, false, false, false] rfl rfl (by kernel_rfl) (by decide) (fun K hK => ?_)
                    replace HS : Aside0 (Sep FF w [r6 A2802 l2801.length n2804 l2801, r6 A3137 x3136.length n3139 x3136, r12 A3086 x3085.length n3088 x3085, b8 g2797 g2799 a2807 a2808 a2809 a2810, b7 g2799 A2802 l2801.length n2804 a2806, r6 none 0 0 [], r12 none 0 0 [], b24 g2812 none 0 0 none 0 0, b24 g2987 A3086 x3085.length n3088 A3137 x3136.length n3139] w3143) := ⟨HS.out.front 4 (by simp)⟩
                    replace HS : Aside0 (Sep FF w [b7 g2799 A2802 l2801.length n2804 a2806, r6 A2802 l2801.length n2804 l2801, r6 A3137 x3136.length n3139 x3136, r12 A3086 x3085.length n3088 x3085, b8 g2797 g2799 a2807 a2808 a2809 a2810, r6 none 0 0 [], r12 none 0 0 [], b24 g2812 none 0 0 none 0 0, b24 g2987 A3086 x3085.length n3088 A3137 x3136.length n3139] w3143) := ⟨HS.out.front 4 (by simp)⟩
                    replace HS : Aside0 (Sep FF w [b8 g2797 g2799 a2807 a2808 a2809 a2810, b7 g2799 A2802 l2801.length n2804 a2806, r6 A2802 l2801.length n2804 l2801, r6 A3137 x3136.length n3139 x3136, r12 A3086 x3085.length n3088 x3085, r6 none 0 0 [], r12 none 0 0 [], b24 g2812 none 0 0 none 0 0, b24 g2987 A3086 x3085.length n3088 A3137 x3136.length n3139] w3143) := ⟨HS.out.front 4 (by simp)⟩
                    obtain ⟨t3116, HA3144, AL3132⟩ := bind_some AL3132
                    refine goes_ Tryd.func102 (by kernel_rfl) rfl #[.pointer (some ⟨g2797, 0, none⟩), .int .i64 a2811, .int .i64 (wrap64 ((wrap64 (t2973)) + (wrap64 (t2976)))), .int .i64 (wrap64 ((wrap64 (t2973)) + x3135))] (by rfl) rfl rfl (by (try simp only [List.map_toArray, List.map_cons, List.map_nil]); first | done | rfl) ?_
                    refine (obj_look.calls _ l2801 a2806 a2807 a2808 a2809 a2810 a2811 (wrap64 ((wrap64 (t2973)) + (wrap64 (t2976)))) (wrap64 ((wrap64 (t2973)) + x3135)) g2797 g2799 A2802 l2801.length n2804 t3116 _ ⟨HGl0.out.pass HS.out⟩ ⟨HS.out.begin⟩ HA3144).mono ?_
                    rintro e_ w3145 ⟨rfl, hS⟩
                    replace HS : Aside0 (Sep FF w [b8 g2797 g2799 a2807 a2808 a2809 a2810, b7 g2799 A2802 l2801.length n2804 a2806, r6 A2802 l2801.length n2804 l2801, r6 A3137 x3136.length n3139 x3136, r12 A3086 x3085.length n3088 x3085, r6 none 0 0 [], r12 none 0 0 [], b24 g2812 none 0 0 none 0 0, b24 g2987 A3086 x3085.length n3088 A3137 x3136.length n3139] w3145) := ⟨HS.out.call hS⟩
                    clear hS
                    refine ⟨_, rfl, ?_⟩
                    refine hK.out _ _ (blk_cellv (HS.out.at8) 1 rfl) (fun hHeld => ?_)
                    clear hK K
                    refine norm_ (a' := ?_) ?_ ?_
                    rotate_left
                    · show Act.put _ (some 82) _ = _
                      simp only [Act.put, List.setIfInBounds_toArray, List.set_cons_zero, List.set_cons_succ, i64_w, i32_w]
                      rfl
                    refine one_ (i := 11) (N := some 83) #[true, true, true, true, true, true, true, true, true, true, true, true, false, false, false] rfl rfl (by kernel_rfl) (by decide) (fun K hK => ?_)
                    refine slice_step (n := 1) (by rfl) (N := 83) rfl (cs := #[.int .u32 t3116]) (t := 33) ?hr ?_
                    case hr => first | (go_simp; done) | (go_simp; rfl)
                    intro g3146 hg w3147 hbox hb
                    replace HS : Aside0 (Sep FF w [b8 g2797 g2799 a2807 a2808 a2809 a2810, b7 g2799 A2802 l2801.length n2804 a2806, r6 A2802 l2801.length n2804 l2801, r6 A3137 x3136.length n3139 x3136, r12 A3086 x3085.length n3088 x3085, r6 none 0 0 [], r12 none 0 0 [], b24 g2812 none 0 0 none 0 0, b24 g2987 A3086 x3085.length n3088 A3137 x3136.length n3139, b19 g3146 t3116] w3147) := ⟨HS.out.box hg hbox hb⟩
                    clear hg hbox hb
                    refine hK.out _ _ (blk_cellv (HS.out.at8) 1 rfl) (fun hHeld => ?_)
                    clear hK K
                    refine norm_ (a' := ?_) ?_ ?_
                    rotate_left
                    · show Act.put _ (some 83) _ = _
                      simp only [Act.put, List.setIfInBounds_toArray, List.set_cons_zero, List.set_cons_succ, i64_w, i32_w]
                      rfl
                    refine one_ (i := 12) (N := some 84) #[true, true, true, true, true, true, true, true, true, true, true, true, true, false, false] rfl rfl (by kernel_rfl) (by decide) (fun K hK => ?_)
                    by_cases c3149 : x3136.length < 35184372088832
                    · replace AL3132 := if_yes c3149 AL3132
                      have c3149b0 : decide (x3136.length < 35184372088832) = true := decide_eq_true c3149
                      clear c3149
                      obtain ⟨y3125, HA3153, AL3132⟩ := bind_some AL3132
                      refine append_step (l1 := [b8 g2797 g2799 a2807 a2808 a2809 a2810, b7 g2799 A2802 l2801.length n2804 a2806, r6 A2802 l2801.length n2804 l2801]) (l2 := [r12 A3086 x3085.length n3088 x3085, r6 none 0 0 [], r12 none 0 0 [], b24 g2812 none 0 0 none 0 0, b24 g2987 A3086 x3085.length n3088 A3137 x3136.length n3139, b19 g3146 t3116]) (by rfl) (.tmp 73) (.tmp 83) 69 33 (.int .u32 0) 4 rfl Tryd.underlying69 (by kernel_rfl) rfl (by decide) (Value.int .u32) (fun _ => rfl) (.slice A3137 x3136.length n3139) (x3136 : List Int) [t3116] ⟨g3146, 0, none⟩ 1 rfl rfl (blk_news (xs := [t3116]) (HS.out.nth 9 rfl)) HS.out (by have := of_decide_eq_true c3149b0; simp only [List.length_cons, List.length_nil]; omega) HA3153 ?_
                      intro A3150 n3151 w3152 HS1
                      replace HS : Aside0 (Sep FF w [b8 g2797 g2799 a2807 a2808 a2809 a2810, b7 g2799 A2802 l2801.length n2804 a2806, r6 A2802 l2801.length n2804 l2801, r6 A3150 y3125.length n3151 y3125, r12 A3086 x3085.length n3088 x3085, r6 none 0 0 [], r12 none 0 0 [], b24 g2812 none 0 0 none 0 0, b24 g2987 A3086 x3085.length n3088 A3137 x3136.length n3139, b19 g3146 t3116] w3152) := ⟨HS1⟩
                      clear HS1
                      refine hK.out _ _ (blk_cellv (HS.out.at8) 1 rfl) (fun hHeld => ?_)
                      clear hK K
                      refine norm_ (a' := ?_) ?_ ?_
                      rotate_left
                      · show Act.put _ (some 84) _ = _
                        simp only [Act.put, List.setIfInBounds_toArray, List.set_cons_zero, List.set_cons_succ, i64_w, i32_w]
                        rfl
                      refine pure_ (i := 13) (N := some 85) (v := ?_) (a' := ?_) #[true, true, true, true, true, true, true, true, true, true, true, true, true, true, false] rfl rfl (by kernel_rfl) (fun _ _ _ h => h) (Or.inl ⟨by rfl, ?_⟩) ?_ ?_
                      rotate_left
                      · intro w'
                        go_simp
                        with_reducible rfl
                      rotate_left
                      · simp only [Act.put, List.setIfInBounds_toArray, List.set_cons_zero, List.set_cons_succ, i64_w, i32_w]
                        rfl
                      refine last_ (i := 14) (N := none) #[true, true, true, true, true, true, true, true, true, true, true, true, true, true, true] rfl rfl (by kernel_rfl) (by decide) (fun K hK => ?_)
                      have hc3156 := blk_cellv (v := .slice A3137 x3136.length n3139) (HS.out.at8) 1 rfl
                      have hz3157 := blk_fz (HS.out.at8) 1
                      refine store_step (w1 := (World.setCell w3152 ⟨g2987, 1, none⟩ (.slice A3150 y3125.length n3151))) (by rfl) rfl ?hr ?_
                      case hr => first | (go_simp; done) | (go_simp; rfl)
                      clear hc3156 hz3157
                      intro w3155 hst
                      have hq0 : Sep FF w [b8 g2797 g2799 a2807 a2808 a2809 a2810, b7 g2799 A2802 l2801.length n2804 a2806, r6 A2802 l2801.length n2804 l2801, r6 A3150 y3125.length n3151 y3125, r12 A3086 x3085.length n3088 x3085, r6 none 0 0 [], r12 none 0 0 [], b24 g2812 none 0 0 none 0 0, b24 g2987 A3086 x3085.length n3088 A3150 y3125.length n3151, b19 g3146 t3116] (World.setCell w3152 ⟨g2987, 1, none⟩ (.slice A3150 y3125.length n3151)) := (HS.out).set1 (l1 := [b8 g2797 g2799 a2807 a2808 a2809 a2810, b7 g2799 A2802 l2801.length n2804 a2806, r6 A2802 l2801.length n2804 l2801, r6 A3150 y3125.length n3151 y3125, r12 A3086 x3085.length n3088 x3085, r6 none 0 0 [], r12 none 0 0 [], b24 g2812 none 0 0 none 0 0]) (l2 := [b19 g3146 t3116]) 1 (.slice A3150 y3125.length n3151)
                      have HS_ : Aside0 (Sep FF w [b8 g2797 g2799 a2807 a2808 a2809 a2810, b7 g2799 A2802 l2801.length n2804 a2806, r6 A2802 l2801.length n2804 l2801, r6 A3150 y3125.length n3151 y3125, r12 A3086 x3085.length n3088 x3085, r6 none 0 0 [], r12 none 0 0 [], b24 g2812 none 0 0 none 0 0, b24 g2987 A3086 x3085.length n3088 A3150 y3125.length n3151, b19 g3146 t3116] w3155) := ⟨by rw [hst]; exact hq0⟩
                      clear hq0
                      clear HS hst
                      have HS := HS_
                      clear HS_
                      refine hK.out _ _ ?_
                      clear hK K
                      refine done_ (by kernel_rfl) ?_
                      replace HS : Aside0 (Sep FF w [b8 g2797 g2799 a2807 a2808 a2809 a2810, b7 g2799 A2802 l2801.length n2804 a2806, r6 A2802 l2801.length n2804 l2801, r6 A3150 y3125.length n3151 y3125, r12 A3086 x3085.length n3088 x3085, r6 none 0 0 [], r12 none 0 0 [], b24 g2812 none 0 0 none 0 0, b24 g2987 A3086 x3085.length n3088 A3150 y3125.length n3151] w3155) := ⟨HS.out.sub (.cons_cons _ (.cons_cons _ (.cons_cons _ (.cons_cons _ (.cons_cons _ (.cons_cons _ (.cons_cons _ (.cons_cons _ (.cons_cons _ (.cons _ .slnil))))))))))⟩
                      go_wp2_with fail
                      go_roundg k3134
                      case measure => exact Nat.lt_succ_self _
                      case rel => exact ⟨(wrap64 (x3135 + 1)), (y3125), (A3150), (y3125.length), (n3151), (by first | rfl | (simp [IntKind.wrap_u32]; done)), Aside0.mk AL3132.out, ⟨((((((((((HS.out).front 8 (by simp)).front 8 (by simp)).front 8 (by simp)).front 8 (by simp)).front 6 (by simp)).front 6 (by simp)).front 6 (by simp)).front 8 (by simp)).front 8 (by simp)).keep (l := [r6 A3150 y3125.length n3151 y3125, r12 A3086 x3085.length n3088 x3085, b8 g2797 g2799 a2807 a2808 a2809 a2810, b7 g2799 A2802 l2801.length n2804 a2806, r6 A2802 l2801.length n2804 l2801, r6 none 0 0 [], r12 none 0 0 [], b24 g2812 none 0 0 none 0 0, b24 g2987 A3086 x3085.length n3088 A3150 y3125.length n3151]) (rest := [])⟩⟩
                    · replace AL3132 := if_no c3149 AL3132
                      have c3149b0 : decide (x3136.length < 35184372088832) = false := decide_eq_false c3149
                      clear c3149
                      exact (none_no AL3132).elim
                  · replace AL3132 := if_no c3141 AL3132
                    have c3141b0 : decide (x3135 < (wrap64 (t2976))) = false := decide_eq_false c3141
                    clear c3141
                    have ho := some_eq AL3132
                    subst ho
                    clear AL3132
                    have hc3158 : w3133.cell? ⟨g2987, 0, none⟩ = some (.slice A3086 x3085.length n3088) := blk_cellv (HS.out.at8) 0 rfl
                    have hc3159 : w3133.cell? ⟨g2987, 1, none⟩ = some (.slice A3137 x3136.length n3139) := blk_cellv (HS.out.at8) 1 rfl
                    have hc3160 : w3133.cell? ⟨g2812, 0, none⟩ = some (.slice none 0 0) := blk_cellv (HS.out.at7) 0 rfl
                    have hz3161 : w3133.frozen? ⟨g2812, 0, none⟩ = false := blk_fz (HS.out.at7) 0
                    have hc3162 : w3133.cell? ⟨g2812, 1, none⟩ = some (.slice none 0 0) := blk_cellv (HS.out.at7) 1 rfl
                    have hz3163 : w3133.frozen? ⟨g2812, 1, none⟩ = false := blk_fz (HS.out.at7) 1
                    go_wp2_with (first | ((with_reducible refine gate_store (t := 71) (p := 4) rfl ?_); refine store_event (w1 := (World.setCell (World.setCell w3133 ⟨g2812, 0, none⟩ (.slice A3086 x3085.length n3088)) ⟨g2812, 1, none⟩ (.slice A3137 x3136.length n3139))) rfl (t := 71) (p := 4) rfl rfl ?hr ?_; (case hr => first | (go_simp; done) | (go_simp; rfl)); intro w3164 hst; clear hc3158 hc3159 hc3160 hz3161 hc3162 hz3163; have hq0 : Sep FF w [r6 A3137 x3136.length n3139 x3136, r12 A3086 x3085.length n3088 x3085, b8 g2797 g2799 a2807 a2808 a2809 a2810, b7 g2799 A2802 l2801.length n2804 a2806, r6 A2802 l2801.length n2804 l2801, r6 none 0 0 [], r12 none 0 0 [], b24 g2812 A3086 x3085.length n3088 none 0 0, b24 g2987 A3086 x3085.length n3088 A3137 x3136.length n3139] (World.setCell w3133 ⟨g2812, 0, none⟩ (.slice A3086 x3085.length n3088)) := (HS.out).set1 (l1 := [r6 A3137 x3136.length n3139 x3136, r12 A3086 x3085.length n3088 x3085, b8 g2797 g2799 a2807 a2808 a2809 a2810, b7 g2799 A2802 l2801.length n2804 a2806, r6 A2802 l2801.length n2804 l2801, r6 none 0 0 [], r12 none 0 0 []]) (l2 := [b24 g2987 A3086 x3085.length n3088 A3137 x3136.length n3139]) 0 (.slice A3086 x3085.length n3088); have hq1 : Sep FF w [r6 A3137 x3136.length n3139 x3136, r12 A3086 x3085.length n3088 x3085, b8 g2797 g2799 a2807 a2808 a2809 a2810, b7 g2799 A2802 l2801.length n2804 a2806, r6 A2802 l2801.length n2804 l2801, r6 none 0 0 [], r12 none 0 0 [], b24 g2812 A3086 x3085.length n3088 A3137 x3136.length n3139, b24 g2987 A3086 x3085.length n3088 A3137 x3136.length n3139] (World.setCell (World.setCell w3133 ⟨g2812, 0, none⟩ (.slice A3086 x3085.length n3088)) ⟨g2812, 1, none⟩ (.slice A3137 x3136.length n3139)) := (hq0).set1 (l1 := [r6 A3137 x3136.length n3139 x3136, r12 A3086 x3085.length n3088 x3085, b8 g2797 g2799 a2807 a2808 a2809 a2810, b7 g2799 A2802 l2801.length n2804 a2806, r6 A2802 l2801.length n2804 l2801, r6 none 0 0 [], r12 none 0 0 []]) (l2 := [b24 g2987 A3086 x3085.length n3088 A3137 x3136.length n3139]) 1 (.slice A3137 x3136.length n3139); replace HS : Aside0 (Sep FF w [r6 A3137 x3136.length n3139 x3136, r12 A3086 x3085.length n3088 x3085, b8 g2797 g2799 a2807 a2808 a2809 a2810, b7 g2799 A2802 l2801.length n2804 a2806, r6 A2802 l2801.length n2804 l2801, r6 none 0 0 [], r12 none 0 0 [], b24 g2812 A3086 x3085.length n3088 A3137 x3136.length n3139, b24 g2987 A3086 x3085.length n3088 A3137 x3136.length n3139] w3164) := ⟨by rw [hst]; exact hq1⟩; clear hq0 hq1; clear hst; replace HS : Aside0 (Sep FF w [r6 A3137 x3136.length n3139 x3136, r12 A3086 x3085.length n3088 x3085, b8 g2797 g2799 a2807 a2808 a2809 a2810, b7 g2799 A2802 l2801.length n2804 a2806, r6 A2802 l2801.length n2804 l2801, b24 g2812 A3086 x3085.length n3088 A3137 x3136.length n3139] w3164) := ⟨HS.out.sub (.cons_cons _ (.cons_cons _ (.cons_cons _ (.cons_cons _ (.cons_cons _ (.cons _ (.cons _ (.cons_cons _ (.cons _ .slnil)))))))))⟩))
                    have hc3165 : w3164.cell? ⟨g2812, 0, none⟩ = some (.slice A3086 x3085.length n3088) := blk_cellv (HS.out.at5) 0 rfl
                    have hc3166 : w3164.cell? ⟨g2812, 1, none⟩ = some (.slice A3137 x3136.length n3139) := blk_cellv (HS.out.at5) 1 rfl
                    refine bodyPost_ret (v := .tuple #[.agg #[.slice A3086 x3085.length n3088, .slice A3137 x3136.length n3139], .bool true]) (by simp [results, Tryd.results36, go_sem, hc3165, hc3166]) rfl ?_
                    rw [← some_eq H]
                    exact ⟨A3086, x3085.length, n3088, A3137, x3136.length, n3139, (by first | rfl | (simp [IntKind.wrap_u32]; done)), (((((HS.out).front 1 (by simp)).front 4 (by simp)).front 4 (by simp)).front 4 (by simp)).keep (l := [b8 g2797 g2799 a2807 a2808 a2809 a2810, b7 g2799 A2802 l2801.length n2804 a2806, r6 A2802 l2801.length n2804 l2801, r12 A3086 x3085.length n3088 x3085, r6 A3137 x3136.length n3139 x3136]) (rest := [b24 g2812 A3086 x3085.length n3088 A3137 x3136.length n3139])⟩
      · replace H := if_no c2986 H
        have c2986b0 : (t2983.2 == 0) = false := beq_eq_false_iff_ne.mpr c2986
        have c2986b1 : (t2983.2 != 0) = true := bne_iff_ne.mpr c2986
        clear c2986
        have hc3273 : w2985.cell? ⟨g2812, 0, none⟩ = some (.slice none 0 0) := blk_cellv (HS.out.at5) 0 rfl
        have hz3274 : w2985.frozen? ⟨g2812, 0, none⟩ = false := blk_fz (HS.out.at5) 0
        have hc3275 : w2985.cell? ⟨g2812, 1, none⟩ = some (.slice none 0 0) := blk_cellv (HS.out.at5) 1 rfl
        have hz3276 : w2985.frozen? ⟨g2812, 1, none⟩ = false := blk_fz (HS.out.at5) 1
        go_wp2_with (first | ((with_reducible refine gate_store (t := 71) (p := 4) rfl ?_); refine store_event (w1 := (World.setCell (World.setCell w2985 ⟨g2812, 0, none⟩ (.slice none 0 0)) ⟨g2812, 1, none⟩ (.slice none 0 0))) rfl (t := 71) (p := 4) rfl rfl ?hr ?_; (case hr => first | (go_simp; done) | (go_simp; rfl)); intro w3277 hst; clear hc3273 hz3274 hc3275 hz3276; have hq0 : Sep FF w [b8 g2797 g2799 a2807 a2808 a2809 a2810, b7 g2799 A2802 l2801.length n2804 a2806, r6 A2802 l2801.length n2804 l2801, r6 none 0 0 [], r12 none 0 0 [], b25 g2812 none 0 0] (World.setCell w2985 ⟨g2812, 0, none⟩ (.slice none 0 0)) := (HS.out).set1 (l1 := [b8 g2797 g2799 a2807 a2808 a2809 a2810, b7 g2799 A2802 l2801.length n2804 a2806, r6 A2802 l2801.length n2804 l2801, r6 none 0 0 [], r12 none 0 0 []]) (l2 := []) 0 (.slice none 0 0); have hq1 : Sep FF w [b8 g2797 g2799 a2807 a2808 a2809 a2810, b7 g2799 A2802 l2801.length n2804 a2806, r6 A2802 l2801.length n2804 l2801, r6 none 0 0 [], r12 none 0 0 [], b22 g2812] (World.setCell (World.setCell w2985 ⟨g2812, 0, none⟩ (.slice none 0 0)) ⟨g2812, 1, none⟩ (.slice none 0 0)) := (hq0).set1 (l1 := [b8 g2797 g2799 a2807 a2808 a2809 a2810, b7 g2799 A2802 l2801.length n2804 a2806, r6 A2802 l2801.length n2804 l2801, r6 none 0 0 [], r12 none 0 0 []]) (l2 := []) 1 (.slice none 0 0); replace HS : Aside0 (Sep FF w [b8 g2797 g2799 a2807 a2808 a2809 a2810, b7 g2799 A2802 l2801.length n2804 a2806, r6 A2802 l2801.length n2804 l2801, r6 none 0 0 [], r12 none 0 0 [], b22 g2812] w3277) := ⟨by rw [hst]; exact hq1⟩; clear hq0 hq1; clear hst; replace HS : Aside0 (Sep FF w [r12 none 0 0 [], b8 g2797 g2799 a2807 a2808 a2809 a2810, b7 g2799 A2802 l2801.length n2804 a2806, r6 A2802 l2801.length n2804 l2801, r6 none 0 0 [], r12 none 0 0 [], b23 g2812 none 0 0] w3277) := ⟨HS.out.nilrow 3 (Value.int .i64)⟩; replace HS : Aside0 (Sep FF w [r6 none 0 0 [], r12 none 0 0 [], b8 g2797 g2799 a2807 a2808 a2809 a2810, b7 g2799 A2802 l2801.length n2804 a2806, r6 A2802 l2801.length n2804 l2801, r6 none 0 0 [], r12 none 0 0 [], b24 g2812 none 0 0 none 0 0] w3277) := ⟨HS.out.nilrow 33 (Value.int .u32)⟩; replace HS : Aside0 (Sep FF w [r6 none 0 0 [], r12 none 0 0 [], b8 g2797 g2799 a2807 a2808 a2809 a2810, b7 g2799 A2802 l2801.length n2804 a2806, r6 A2802 l2801.length n2804 l2801, b24 g2812 none 0 0 none 0 0] w3277) := ⟨HS.out.sub (.cons_cons _ (.cons_cons _ (.cons_cons _ (.cons_cons _ (.cons_cons _ (.cons _ (.cons _ (.cons_cons _ .slnil))))))))⟩))
        have hc3282 : w3277.cell? ⟨g2812, 0, none⟩ = some (.slice none 0 0) := blk_cellv (HS.out.at5) 0 rfl
        have hc3283 : w3277.cell? ⟨g2812, 1, none⟩ = some (.slice none 0 0) := blk_cellv (HS.out.at5) 1 rfl
        refine bodyPost_ret (v := .tuple #[.agg #[.slice none 0 0, .slice none 0 0], .bool false]) (by simp [results, Tryd.results36, go_sem, hc3282, hc3283]) rfl ?_
        rw [← some_eq H]
        exact ⟨none, 0, 0, none, 0, 0, (by first | rfl | (simp [IntKind.wrap_u32]; done)), (((((HS.out).front 1 (by simp)).front 4 (by simp)).front 4 (by simp)).front 4 (by simp)).keep (l := [b8 g2797 g2799 a2807 a2808 a2809 a2810, b7 g2799 A2802 l2801.length n2804 a2806, r6 A2802 l2801.length n2804 l2801, r12 none 0 0 [], r6 none 0 0 []]) (rest := [b24 g2812 none 0 0 none 0 0])⟩
    · replace H := if_no c2972 H
      have c2972b0 : t2969 = false := by simpa using c2972
      have c2972b1 : (!t2969) = true := by rw [c2972b0]; rfl
      try rw [c2972b1]
      clear c2972
      have hc3294 : w2971.cell? ⟨g2812, 0, none⟩ = some (.slice none 0 0) := blk_cellv (HS.out.at5) 0 rfl
      have hz3295 : w2971.frozen? ⟨g2812, 0, none⟩ = false := blk_fz (HS.out.at5) 0
      have hc3296 : w2971.cell? ⟨g2812, 1, none⟩ = some (.slice none 0 0) := blk_cellv (HS.out.at5) 1 rfl
      have hz3297 : w2971.frozen? ⟨g2812, 1, none⟩ = false := blk_fz (HS.out.at5) 1
      go_wp2_with (first | ((with_reducible refine gate_store (t := 71) (p := 4) rfl ?_); refine store_event (w1 := (World.setCell (World.setCell w2971 ⟨g2812, 0, none⟩ (.slice none 0 0)) ⟨g2812, 1, none⟩ (.slice none 0 0))) rfl (t := 71) (p := 4) rfl rfl ?hr ?_; (case hr => first | (go_simp; done) | (go_simp; rfl)); intro w3298 hst; clear hc3294 hz3295 hc3296 hz3297; have hq0 : Sep FF w [b8 g2797 g2799 a2807 a2808 a2809 a2810, b7 g2799 A2802 l2801.length n2804 a2806, r6 A2802 l2801.length n2804 l2801, r6 none 0 0 [], r12 none 0 0 [], b25 g2812 none 0 0] (World.setCell w2971 ⟨g2812, 0, none⟩ (.slice none 0 0)) := (HS.out).set1 (l1 := [b8 g2797 g2799 a2807 a2808 a2809 a2810, b7 g2799 A2802 l2801.length n2804 a2806, r6 A2802 l2801.length n2804 l2801, r6 none 0 0 [], r12 none 0 0 []]) (l2 := []) 0 (.slice none 0 0); have hq1 : Sep FF w [b8 g2797 g2799 a2807 a2808 a2809 a2810, b7 g2799 A2802 l2801.length n2804 a2806, r6 A2802 l2801.length n2804 l2801, r6 none 0 0 [], r12 none 0 0 [], b22 g2812] (World.setCell (World.setCell w2971 ⟨g2812, 0, none⟩ (.slice none 0 0)) ⟨g2812, 1, none⟩ (.slice none 0 0)) := (hq0).set1 (l1 := [b8 g2797 g2799 a2807 a2808 a2809 a2810, b7 g2799 A2802 l2801.length n2804 a2806, r6 A2802 l2801.length n2804 l2801, r6 none 0 0 [], r12 none 0 0 []]) (l2 := []) 1 (.slice none 0 0); replace HS : Aside0 (Sep FF w [b8 g2797 g2799 a2807 a2808 a2809 a2810, b7 g2799 A2802 l2801.length n2804 a2806, r6 A2802 l2801.length n2804 l2801, r6 none 0 0 [], r12 none 0 0 [], b22 g2812] w3298) := ⟨by rw [hst]; exact hq1⟩; clear hq0 hq1; clear hst; replace HS : Aside0 (Sep FF w [r12 none 0 0 [], b8 g2797 g2799 a2807 a2808 a2809 a2810, b7 g2799 A2802 l2801.length n2804 a2806, r6 A2802 l2801.length n2804 l2801, r6 none 0 0 [], r12 none 0 0 [], b23 g2812 none 0 0] w3298) := ⟨HS.out.nilrow 3 (Value.int .i64)⟩; replace HS : Aside0 (Sep FF w [r6 none 0 0 [], r12 none 0 0 [], b8 g2797 g2799 a2807 a2808 a2809 a2810, b7 g2799 A2802 l2801.length n2804 a2806, r6 A2802 l2801.length n2804 l2801, r6 none 0 0 [], r12 none 0 0 [], b24 g2812 none 0 0 none 0 0] w3298) := ⟨HS.out.nilrow 33 (Value.int .u32)⟩; replace HS : Aside0 (Sep FF w [r6 none 0 0 [], r12 none 0 0 [], b8 g2797 g2799 a2807 a2808 a2809 a2810, b7 g2799 A2802 l2801.length n2804 a2806, r6 A2802 l2801.length n2804 l2801, b24 g2812 none 0 0 none 0 0] w3298) := ⟨HS.out.sub (.cons_cons _ (.cons_cons _ (.cons_cons _ (.cons_cons _ (.cons_cons _ (.cons _ (.cons _ (.cons_cons _ .slnil))))))))⟩))
      have hc3303 : w3298.cell? ⟨g2812, 0, none⟩ = some (.slice none 0 0) := blk_cellv (HS.out.at5) 0 rfl
      have hc3304 : w3298.cell? ⟨g2812, 1, none⟩ = some (.slice none 0 0) := blk_cellv (HS.out.at5) 1 rfl
      refine bodyPost_ret (v := .tuple #[.agg #[.slice none 0 0, .slice none 0 0], .bool false]) (by simp [results, Tryd.results36, go_sem, hc3303, hc3304]) rfl ?_
      rw [← some_eq H]
      exact ⟨none, 0, 0, none, 0, 0, (by first | rfl | (simp [IntKind.wrap_u32]; done)), (((((HS.out).front 1 (by simp)).front 4 (by simp)).front 4 (by simp)).front 4 (by simp)).keep (l := [b8 g2797 g2799 a2807 a2808 a2809 a2810, b7 g2799 A2802 l2801.length n2804 a2806, r6 A2802 l2801.length n2804 l2801, r12 none 0 0 [], r6 none 0 0 []]) (rest := [b24 g2812 none 0 0 none 0 0])⟩
  · replace H := if_no c2843 H
    have c2843b0 : t2840 = false := by simpa using c2843
    have c2843b1 : (!t2840) = true := by rw [c2843b0]; rfl
    try rw [c2843b1]
    clear c2843
    have hc3315 : w2842.cell? ⟨g2812, 0, none⟩ = some (.slice none 0 0) := blk_cellv (HS.out.at5) 0 rfl
    have hz3316 : w2842.frozen? ⟨g2812, 0, none⟩ = false := blk_fz (HS.out.at5) 0
    have hc3317 : w2842.cell? ⟨g2812, 1, none⟩ = some (.slice none 0 0) := blk_cellv (HS.out.at5) 1 rfl
    have hz3318 : w2842.frozen? ⟨g2812, 1, none⟩ = false := blk_fz (HS.out.at5) 1
    go_wp2_with (first | ((with_reducible refine gate_store (t := 71) (p := 4) rfl ?_); refine store_event (w1 := (World.setCell (World.setCell w2842 ⟨g2812, 0, none⟩ (.slice none 0 0)) ⟨g2812, 1, none⟩ (.slice none 0 0))) rfl (t := 71) (p := 4) rfl rfl ?hr ?_; (case hr => first | (go_simp; done) | (go_simp; rfl)); intro w3319 hst; clear hc3315 hz3316 hc3317 hz3318; have hq0 : Sep FF w [b8 g2797 g2799 a2807 a2808 a2809 a2810, b7 g2799 A2802 l2801.length n2804 a2806, r6 A2802 l2801.length n2804 l2801, r6 none 0 0 [], r12 none 0 0 [], b25 g2812 none 0 0] (World.setCell w2842 ⟨g2812, 0, none⟩ (.slice none 0 0)) := (HS.out).set1 (l1 := [b8 g2797 g2799 a2807 a2808 a2809 a2810, b7 g2799 A2802 l2801.length n2804 a2806, r6 A2802 l2801.length n2804 l2801, r6 none 0 0 [], r12 none 0 0 []]) (l2 := []) 0 (.slice none 0 0); have hq1 : Sep FF w [b8 g2797 g2799 a2807 a2808 a2809 a2810, b7 g2799 A2802 l2801.length n2804 a2806, r6 A2802 l2801.length n2804 l2801, r6 none 0 0 [], r12 none 0 0 [], b22 g2812] (World.setCell (World.setCell w2842 ⟨g2812, 0, none⟩ (.slice none 0 0)) ⟨g2812, 1, none⟩ (.slice none 0 0)) := (hq0).set1 (l1 := [b8 g2797 g2799 a2807 a2808 a2809 a2810, b7 g2799 A2802 l2801.length n2804 a2806, r6 A2802 l2801.length n2804 l2801, r6 none 0 0 [], r12 none 0 0 []]) (l2 := []) 1 (.slice none 0 0); replace HS : Aside0 (Sep FF w [b8 g2797 g2799 a2807 a2808 a2809 a2810, b7 g2799 A2802 l2801.length n2804 a2806, r6 A2802 l2801.length n2804 l2801, r6 none 0 0 [], r12 none 0 0 [], b22 g2812] w3319) := ⟨by rw [hst]; exact hq1⟩; clear hq0 hq1; clear hst; replace HS : Aside0 (Sep FF w [r12 none 0 0 [], b8 g2797 g2799 a2807 a2808 a2809 a2810, b7 g2799 A2802 l2801.length n2804 a2806, r6 A2802 l2801.length n2804 l2801, r6 none 0 0 [], r12 none 0 0 [], b23 g2812 none 0 0] w3319) := ⟨HS.out.nilrow 3 (Value.int .i64)⟩; replace HS : Aside0 (Sep FF w [r6 none 0 0 [], r12 none 0 0 [], b8 g2797 g2799 a2807 a2808 a2809 a2810, b7 g2799 A2802 l2801.length n2804 a2806, r6 A2802 l2801.length n2804 l2801, r6 none 0 0 [], r12 none 0 0 [], b24 g2812 none 0 0 none 0 0] w3319) := ⟨HS.out.nilrow 33 (Value.int .u32)⟩; replace HS : Aside0 (Sep FF w [r6 none 0 0 [], r12 none 0 0 [], b8 g2797 g2799 a2807 a2808 a2809 a2810, b7 g2799 A2802 l2801.length n2804 a2806, r6 A2802 l2801.length n2804 l2801, b24 g2812 none 0 0 none 0 0] w3319) := ⟨HS.out.sub (.cons_cons _ (.cons_cons _ (.cons_cons _ (.cons_cons _ (.cons_cons _ (.cons _ (.cons _ (.cons_cons _ .slnil))))))))⟩))
    have hc3324 : w3319.cell? ⟨g2812, 0, none⟩ = some (.slice none 0 0) := blk_cellv (HS.out.at5) 0 rfl
    have hc3325 : w3319.cell? ⟨g2812, 1, none⟩ = some (.slice none 0 0) := blk_cellv (HS.out.at5) 1 rfl
    refine bodyPost_ret (v := .tuple #[.agg #[.slice none 0 0, .slice none 0 0], .bool false]) (by simp [results, Tryd.results36, go_sem, hc3324, hc3325]) rfl ?_
    rw [← some_eq H]
    exact ⟨none, 0, 0, none, 0, 0, (by first | rfl | (simp [IntKind.wrap_u32]; done)), (((((HS.out).front 1 (by simp)).front 4 (by simp)).front 4 (by simp)).front 4 (by simp)).keep (l := [b8 g2797 g2799 a2807 a2808 a2809 a2810, b7 g2799 A2802 l2801.length n2804 a2806, r6 A2802 l2801.length n2804 l2801, r12 none 0 0 [], r6 none 0 0 []]) (rest := [b24 g2812 none 0 0 none 0 0])⟩

set_option maxHeartbeats 30000000 in
set_option maxRecDepth 100000 in
theorem obj_Is.calls (l3417 : List Int) (a3422 : Int) (a3423 : Int) (a3424 : Int) (a3425 : Int) (a3426 : Int) (a3427 : Int) (g3413 : Nat) (g3415 : Nat) (A3418 : Option Addr) (m3419 : Nat) (n3420 : Nat) (r : Bool × Int) (w : World)  (HGl0 : Aside0 (Gl 0 #[.int .i64 0, .int .i64 0, .int .i64 0, .int .i64 0, .int .i64 0] (fps [b8 g3413 g3415 a3423 a3424 a3425 a3426, b7 g3415 A3418 m3419 n3420 a3422, r6 A3418 m3419 n3420 l3417]) w)) (HS : Aside0 (Sep (fps [b8 g3413 g3415 a3423 a3424 a3425 a3426, b7 g3415 A3418 m3419 n3420 a3422, r6 A3418 m3419 n3420 l3417]) w [b8 g3413 g3415 a3423 a3424 a3425 a3426, b7 g3415 A3418 m3419 n3420 a3422, r6 A3418 m3419 n3420 l3417] w)) (H : Aside0 (obj_Is.f l3417 a3422 a3423 a3424 a3425 a3426 a3427 = some r)) :
    Calls Tryd.prog 48 #[.pointer (some ⟨g3413, 0, none⟩), .int .i64 a3427] w fun e w' => e = .returned (.bool r.1) ∧ Sep (fps [b8 g3413 g3415 a3423 a3424 a3425 a3426, b7 g3415 A3418 m3419 n3420 a3422, r6 A3418 m3419 n3420 l3417]) w [b8 g3413 g3415 a3423 a3424 a3425 a3426, b7 g3415 A3418 m3419 n3420 r.2, r6 A3418 m3419 n3420 l3417] w' := by
  generalize (fps [b8 g3413 g3415 a3423 a3424 a3425 a3426, b7 g3415 A3418 m3419 n3420 a3422, r6 A3418 m3419 n3420 l3417]) = FF at HS HGl0 ⊢
  obtain rfl := (row_len (HS.out.at2)).symm
  unfold obj_Is.f at H
  go_enter Tryd.func48, Tryd.ntmps48
  go_wp2_with fail
  obtain ⟨t3442, HA3443, H⟩ := bind_some H
  refine (obj_in.calls l3417 a3422 a3423 a3424 a3425 a3426 a3427 g3413 g3415 A3418 l3417.length n3420 t3442 _ ⟨HGl0.out.pass HS.out⟩ ⟨HS.out.begin⟩ HA3443).mono ?_
  rintro e_ w3444 ⟨rfl, hS⟩
  replace HS : Aside0 (Sep FF w [b8 g3413 g3415 a3423 a3424 a3425 a3426, b7 g3415 A3418 l3417.length n3420 a3422, r6 A3418 l3417.length n3420 l3417] w3444) := ⟨HS.out.call hS⟩
  clear hS
  by_cases c3445 : t3442 = true
  · replace H := if_yes c3445 H
    have c3445b0 : t3442 = true := c3445
    have c3445b1 : (!t3442) = false := by rw [c3445b0]; rfl
    clear c3445
    go_wp2_with fail
    obtain ⟨t3446, HA3447, H⟩ := bind_some H
    refine (ground_Ground_Word.calls l3417 a3422 a3423 a3424 a3425 a3426 (wrap64 (a3427 - 1)) 0 g3413 g3415 A3418 l3417.length n3420 t3446 _ ⟨HGl0.out.pass HS.out⟩ ⟨HS.out.begin⟩ HA3447).mono ?_
    rintro e_ w3448 ⟨rfl, hS⟩
    replace HS : Aside0 (Sep FF w [b8 g3413 g3415 a3423 a3424 a3425 a3426, b7 g3415 A3418 l3417.length n3420 t3446.2, r6 A3418 l3417.length n3420 l3417] w3448) := ⟨HS.out.call hS⟩
    clear hS
    go_wp2_with fail
    obtain ⟨t3449, HA3450, H⟩ := bind_some H
    refine (tag_Unpack.calls t3446.1 t3449 _ ⟨HGl0.out.pass (l := []) HS.out⟩ ⟨Sep.start _⟩ HA3450).mono ?_
    rintro e_ w3451 ⟨rfl, hS⟩
    replace HS : Aside0 (Sep FF w [b8 g3413 g3415 a3423 a3424 a3425 a3426, b7 g3415 A3418 l3417.length n3420 t3446.2, r6 A3418 l3417.length n3420 l3417] w3451) := ⟨HS.out.call hS⟩
    clear hS
    have fl3452 : ∀ w, (Instr.field 32 (.agg #[.int .i64 t3449.1, .int .i64 t3449.2.1, .int .i64 t3449.2.2.1, .int .i64 t3449.2.2.2.1, .int .i64 t3449.2.2.2.2.1, .int .i64 t3449.2.2.2.2.2.1, .int .i64 t3449.2.2.2.2.2.2]) 0).run Tryd.prog w = .ok (.int .i64 t3449.1) w := fun _ => by kernel_rfl
    go_wp2_with fail
    clear fl3452
    obtain ⟨t3453, HA3454, H⟩ := bind_some H
    refine (obj_isHead.calls t3449.1 t3453 _ ⟨HGl0.out.pass (l := []) HS.out⟩ ⟨Sep.start _⟩ HA3454).mono ?_
    rintro e_ w3455 ⟨rfl, hS⟩
    replace HS : Aside0 (Sep FF w [b8 g3413 g3415 a3423 a3424 a3425 a3426, b7 g3415 A3418 l3417.length n3420 t3446.2, r6 A3418 l3417.length n3420 l3417] w3455) := ⟨HS.out.call hS⟩
    clear hS
    go_wp2_with fail
    go_ret
    rw [← some_eq H]
    exact ⟨(by first | rfl | (simp [IntKind.wrap_u32]; done)), HS.out⟩
  · replace H := if_no c3445 H
    have c3445b0 : t3442 = false := by simpa using c3445
    have c3445b1 : (!t3442) = true := by rw [c3445b0]; rfl
    clear c3445
    go_wp2_with fail
    go_ret
    rw [← some_eq H]
    exact ⟨(by first | rfl | (simp [IntKind.wrap_u32]; done)), HS.out⟩

set_option maxHeartbeats 30000000 in
set_option maxRecDepth 100000 in
theorem count_change.calls (l3399 : List Int) (a3404 : Int) (a3405 : Int) (a3406 : Int) (a3407 : Int) (a3408 : Int) (a3409 : Int) (a3410 : Int) (a3411 : Int) (g3395 : Nat) (g3397 : Nat) (A3400 : Option Addr) (m3401 : Nat) (n3402 : Nat) (r : Int × Bool × Int × List Int) (w : World)  (HGl0 : Aside0 (Gl 0 #[.int .i64 0, .int .i64 0, .int .i64 0, .int .i64 0, .int .i64 0] (fps [b8 g3395 g3397 a3405 a3406 a3407 a3408, b7 g3397 A3400 m3401 n3402 a3404, r6 A3400 m3401 n3402 l3399]) w)) (HS : Aside0 (Sep (fps [b8 g3395 g3397 a3405 a3406 a3407 a3408, b7 g3397 A3400 m3401 n3402 a3404, r6 A3400 m3401 n3402 l3399]) w [b8 g3395 g3397 a3405 a3406 a3407 a3408, b7 g3397 A3400 m3401 n3402 a3404, r6 A3400 m3401 n3402 l3399] w)) (H : Aside0 (count_change.f l3399 a3404 a3405 a3406 a3407 a3408 a3409 a3410 a3411 = some r)) :
    Calls Tryd.prog 103 #[.pointer (some ⟨g3395, 0, none⟩), .int .i64 a3409, .int .i64 a3410, .int .i64 a3411] w fun e w' => e = .returned (.tuple #[.int .i64 r.1, .bool r.2.1]) ∧ Sep (fps [b8 g3395 g3397 a3405 a3406 a3407 a3408, b7 g3397 A3400 m3401 n3402 a3404, r6 A3400 m3401 n3402 l3399]) w [b8 g3395 g3397 a3405 a3406 a3407 a3408, b7 g3397 A3400 m3401 n3402 r.2.2.1, r6 A3400 m3401 n3402 r.2.2.2] w' := by
  generalize (fps [b8 g3395 g3397 a3405 a3406 a3407 a3408, b7 g3397 A3400 m3401 n3402 a3404, r6 A3400 m3401 n3402 l3399]) = FF at HS HGl0 ⊢
  obtain rfl := (row_len (HS.out.at2)).symm
  unfold count_change.f at H
  go_enter Tryd.func103, Tryd.ntmps103
  go_wp2_with fail
  obtain ⟨t3475, HA3476, H⟩ := bind_some H
  refine (obj_Is.calls l3399 a3404 a3405 a3406 a3407 a3408 a3409 g3395 g3397 A3400 l3399.length n3402 t3475 _ ⟨HGl0.out.pass HS.out⟩ ⟨HS.out.begin⟩ HA3476).mono ?_
  rintro e_ w3477 ⟨rfl, hS⟩
  replace HS : Aside0 (Sep FF w [b8 g3395 g3397 a3405 a3406 a3407 a3408, b7 g3397 A3400 l3399.length n3402 t3475.2, r6 A3400 l3399.length n3402 l3399] w3477) := ⟨HS.out.call hS⟩
  clear hS
  by_cases c3478 : t3475.1 = true
  · replace H := if_yes c3478 H
    have c3478b0 : t3475.1 = true := c3478
    have c3478b1 : (!t3475.1) = false := by rw [c3478b0]; rfl
    try rw [c3478b1]
    clear c3478
    go_wp2_with fail
    obtain ⟨t3479, HA3480, H⟩ := bind_some H
    refine (ground_Ground_Word.calls l3399 t3475.2 a3405 a3406 a3407 a3408 (wrap64 (a3409 - 1)) 3 g3395 g3397 A3400 l3399.length n3402 t3479 _ ⟨HGl0.out.pass HS.out⟩ ⟨HS.out.begin⟩ HA3480).mono ?_
    rintro e_ w3481 ⟨rfl, hS⟩
    replace HS : Aside0 (Sep FF w [b8 g3395 g3397 a3405 a3406 a3407 a3408, b7 g3397 A3400 l3399.length n3402 t3479.2, r6 A3400 l3399.length n3402 l3399] w3481) := ⟨HS.out.call hS⟩
    clear hS
    by_cases c3482 : (wrap64 (t3479.1)) = a3411
    · replace H := if_yes c3482 H
      have c3482b0 : ((wrap64 (t3479.1)) == a3411) = true := beq_iff_eq.mpr c3482
      have c3482b1 : ((wrap64 (t3479.1)) != a3411) = false := bne_eq_false_iff_eq.mpr c3482
      clear c3482
      go_wp2_with fail
      go_ret2
      rw [← some_eq H]
      exact ⟨(by first | rfl | (simp [IntKind.wrap_u32]; done)), HS.out⟩
    · replace H := if_no c3482 H
      have c3482b0 : ((wrap64 (t3479.1)) == a3411) = false := beq_eq_false_iff_ne.mpr c3482
      have c3482b1 : ((wrap64 (t3479.1)) != a3411) = true := bne_iff_ne.mpr c3482
      clear c3482
      go_wp2_with fail
      obtain ⟨t3483, HA3484, H⟩ := bind_some H
      refine (ground_Ground_SetWord.calls l3399 t3479.2 a3405 a3406 a3407 a3408 (wrap64 (a3409 - 1)) 3 ((wrap64 ((wrap64 (t3479.1)) + a3410)) % 4294967296) g3395 g3397 A3400 l3399.length n3402 t3483 _ ⟨HGl0.out.pass HS.out⟩ ⟨HS.out.begin⟩ HA3484).mono ?_
      rintro e_ w3485 ⟨rfl, hS⟩
      replace HS : Aside0 (Sep FF w [b8 g3395 g3397 a3405 a3406 a3407 a3408, b7 g3397 A3400 l3399.length n3402 t3483.2.1, r6 A3400 l3399.length n3402 t3483.2.2] w3485) := ⟨HS.out.call hS⟩
      clear hS
      go_wp2_with fail
      go_ret2
      rw [← some_eq H]
      exact ⟨(by first | rfl | (simp [IntKind.wrap_u32]; done)), HS.out⟩
  · replace H := if_no c3478 H
    have c3478b0 : t3475.1 = false := by simpa using c3478
    have c3478b1 : (!t3475.1) = true := by rw [c3478b0]; rfl
    try rw [c3478b1]
    clear c3478
    go_wp2_with fail
    go_ret2
    rw [← some_eq H]
    exact ⟨(by first | rfl | (simp [IntKind.wrap_u32]; done)), HS.out⟩

set_option maxHeartbeats 30000000 in
set_option maxRecDepth 100000 in
theorem count_Up.calls (l3383 : List Int) (a3388 : Int) (a3389 : Int) (a3390 : Int) (a3391 : Int) (a3392 : Int) (a3393 : Int) (g3379 : Nat) (g3381 : Nat) (A3384 : Option Addr) (m3385 : Nat) (n3386 : Nat) (r : Int × Bool × Int × List Int) (w : World)  (HGl0 : Aside0 (Gl 0 #[.int .i64 0, .int .i64 0, .int .i64 0, .int .i64 0, .int .i64 0] (fps [b8 g3379 g3381 a3389 a3390 a3391 a3392, b7 g3381 A3384 m3385 n3386 a3388, r6 A3384 m3385 n3386 l3383]) w)) (HS : Aside0 (Sep (fps [b8 g3379 g3381 a3389 a3390 a3391 a3392, b7 g3381 A3384 m3385 n3386 a3388, r6 A3384 m3385 n3386 l3383]) w [b8 g3379 g3381 a3389 a3390 a3391 a3392, b7 g3381 A3384 m3385 n3386 a3388, r6 A3384 m3385 n3386 l3383] w)) (H : Aside0 (count_Up.f l3383 a3388 a3389 a3390 a3391 a3392 a3393 = some r)) :
    Calls Tryd.prog 37 #[.pointer (some ⟨g3379, 0, none⟩), .int .i64 a3393] w fun e w' => e = .returned (.tuple #[.int .i64 r.1, .bool r.2.1]) ∧ Sep (fps [b8 g3379 g3381 a3389 a3390 a3391 a3392, b7 g3381 A3384 m3385 n3386 a3388, r6 A3384 m3385 n3386 l3383]) w [b8 g3379 g3381 a3389 a3390 a3391 a3392, b7 g3381 A3384 m3385 n3386 r.2.2.1, r6 A3384 m3385 n3386 r.2.2.2] w' := by
  generalize (fps [b8 g3379 g3381 a3389 a3390 a3391 a3392, b7 g3381 A3384 m3385 n3386 a3388, r6 A3384 m3385 n3386 l3383]) = FF at HS HGl0 ⊢
  obtain rfl := (row_len (HS.out.at2)).symm
  unfold count_Up.f at H
  go_enter Tryd.func37, Tryd.ntmps37
  go_wp2_with fail
  obtain ⟨t3489, HA3490, H⟩ := bind_some H
  refine (count_change.calls l3383 a3388 a3389 a3390 a3391 a3392 a3393 1 4294967295 g3379 g3381 A3384 l3383.length n3386 t3489 _ ⟨HGl0.out.pass HS.out⟩ ⟨HS.out.begin⟩ HA3490).mono ?_
  rintro e_ w3491 ⟨rfl, hS⟩
  replace HS : Aside0 (Sep FF w [b8 g3379 g3381 a3389 a3390 a3391 a3392, b7 g3381 A3384 l3383.length n3386 t3489.2.2.1, r6 A3384 l3383.length n3386 t3489.2.2.2] w3491) := ⟨HS.out.call hS⟩
  clear hS
  go_wp2_with fail
  go_ret2
  rw [← some_eq H]
  exact ⟨(by first | rfl | (simp [IntKind.wrap_u32]; done)), HS.out⟩

set_option maxHeartbeats 30000000 in
set_option maxRecDepth 100000 in
theorem count_Down.calls (l3518 : List Int) (a3523 : Int) (a3524 : Int) (a3525 : Int) (a3526 : Int) (a3527 : Int) (a3528 : Int) (g3514 : Nat) (g3516 : Nat) (A3519 : Option Addr) (m3520 : Nat) (n3521 : Nat) (r : Int × Bool × Int × List Int) (w : World)  (HGl0 : Aside0 (Gl 0 #[.int .i64 0, .int .i64 0, .int .i64 0, .int .i64 0, .int .i64 0] (fps [b8 g3514 g3516 a3524 a3525 a3526 a3527, b7 g3516 A3519 m3520 n3521 a3523, r6 A3519 m3520 n3521 l3518]) w)) (HS : Aside0 (Sep (fps [b8 g3514 g3516 a3524 a3525 a3526 a3527, b7 g3516 A3519 m3520 n3521 a3523, r6 A3519 m3520 n3521 l3518]) w [b8 g3514 g3516 a3524 a3525 a3526 a3527, b7 g3516 A3519 m3520 n3521 a3523, r6 A3519 m3520 n3521 l3518] w)) (H : Aside0 (count_Down.f l3518 a3523 a3524 a3525 a3526 a3527 a3528 = some r)) :
    Calls Tryd.prog 38 #[.pointer (some ⟨g3514, 0, none⟩), .int .i64 a3528] w fun e w' => e = .returned (.tuple #[.int .i64 r.1, .bool r.2.1]) ∧ Sep (fps [b8 g3514 g3516 a3524 a3525 a3526 a3527, b7 g3516 A3519 m3520 n3521 a3523, r6 A3519 m3520 n3521 l3518]) w [b8 g3514 g3516 a3524 a3525 a3526 a3527, b7 g3516 A3519 m3520 n3521 r.2.2.1, r6 A3519 m3520 n3521 r.2.2.2] w' := by
  generalize (fps [b8 g3514 g3516 a3524 a3525 a3526 a3527, b7 g3516 A3519 m3520 n3521 a3523, r6 A3519 m3520 n3521 l3518]) = FF at HS HGl0 ⊢
  obtain rfl := (row_len (HS.out.at2)).symm
  unfold count_Down.f at H
  go_enter Tryd.func38, Tryd.ntmps38
  go_wp2_with fail
  obtain ⟨t3532, HA3533, H⟩ := bind_some H
  refine (count_change.calls l3518 a3523 a3524 a3525 a3526 a3527 a3528 (-1) 0 g3514 g3516 A3519 l3518.length n3521 t3532 _ ⟨HGl0.out.pass HS.out⟩ ⟨HS.out.begin⟩ HA3533).mono ?_
  rintro e_ w3534 ⟨rfl, hS⟩
  replace HS : Aside0 (Sep FF w [b8 g3514 g3516 a3524 a3525 a3526 a3527, b7 g3516 A3519 l3518.length n3521 t3532.2.2.1, r6 A3519 l3518.length n3521 t3532.2.2.2] w3534) := ⟨HS.out.call hS⟩
  clear hS
  go_wp2_with fail
  go_ret2
  rw [← some_eq H]
  exact ⟨(by first | rfl | (simp [IntKind.wrap_u32]; done)), HS.out⟩

set_option maxHeartbeats 30000000 in
set_option maxRecDepth 100000 in
theorem quitrentlaw12_begun.calls (k : Nat)  (r : Bool) (w : World)  (HGl0 : Aside0 (Gl 0 #[.int .i64 0, .int .i64 0, .int .i64 0, .int .i64 0, .int .i64 0] (fps []) w)) (HS : Aside0 (Sep (fps []) w [] w)) (H : Aside0 (quitrentlaw12_begun.f k = some r)) :
    Calls Tryd.prog 35 #[] w fun e w' => e = .returned (.bool r) ∧ Sep (fps []) w [] w' := by
  unfold quitrentlaw12_begun.f at H
  go_enter Tryd.func35, Tryd.ntmps35
  go_wp2_with fail
  obtain ⟨t3576, HA3577, H⟩ := bind_some H
  rcases t3576 with t3578 | t3579
  · have H := sum_l H
    refine (quitrentlaw12_Opened.calls _ 2 16 1 1 (.inl t3578) _ ⟨HGl0.out.pass (l := []) HS.out⟩ ⟨Sep.start _⟩ HA3577).mono ?_
    rintro e_ w3580 ⟨rfl, hS⟩
    replace HS : Aside0 (Sep (fps []) w [] w3580) := ⟨HS.out.call hS⟩
    clear hS
    by_cases c3581 : t3578 = true
    · replace H := if_yes c3581 H
      have c3581b0 : t3578 = true := c3581
      have c3581b1 : (!t3578) = false := by rw [c3581b0]; rfl
      try rw [c3581b1]
      clear c3581
      exact (none_no H).elim
    · replace H := if_no c3581 H
      have c3581b0 : t3578 = false := by simpa using c3581
      have c3581b1 : (!t3578) = true := by rw [c3581b0]; rfl
      try rw [c3581b1]
      clear c3581
      go_wp2_with fail
      go_ret
      rw [← some_eq H]
      exact ⟨(by first | rfl | (simp [IntKind.wrap_u32]; done)), HS.out⟩
  · have H := sum_r H
    refine (quitrentlaw12_Opened.calls _ 2 16 1 1 (.inr t3579) _ ⟨HGl0.out.pass (l := []) HS.out⟩ ⟨Sep.start _⟩ HA3577).mono ?_
    rintro e_ w3582 ⟨g3591, g3592, rfl, g3593, g3594, A3595, m3596, n3597, A3599, m3600, n3601, A3603, m3604, n3605, A3607, m3608, n3609, hS⟩
    replace HS : Aside0 (Sep (fps []) w [b8 g3591 g3593 t3579.2.1 t3579.2.2.1 t3579.2.2.2.1 t3579.2.2.2.2.1, b16 g3592 g3594 0 0 0 0 0 0 0 0 0 A3595 m3596 n3597 A3599 m3600 n3601 0, b7 g3593 A3603 m3604 n3605 t3579.2.2.2.2.2.1, b13 g3594 t3579.2.2.2.2.2.2.1 t3579.2.2.2.2.2.2.2.1 A3607 m3608 n3609, r12 A3595 m3596 n3597 t3579.2.2.2.2.2.2.2.2.1, r12 A3599 m3600 n3601 t3579.2.2.2.2.2.2.2.2.2.1, r6 A3603 m3604 n3605 t3579.2.2.2.2.2.2.2.2.2.2.1, r12 A3607 m3608 n3609 t3579.2.2.2.2.2.2.2.2.2.2.2] w3582) := ⟨HS.out.call hS⟩
    clear hS
    obtain rfl := (row_len (HS.out.at4)).symm
    obtain rfl := (row_len (HS.out.at5)).symm
    obtain rfl := (row_len (HS.out.at6)).symm
    obtain rfl := (row_len (HS.out.at7)).symm
    by_cases c3611 : t3579.1 = true
    · replace H := if_yes c3611 H
      have c3611b0 : t3579.1 = true := c3611
      have c3611b1 : (!t3579.1) = false := by rw [c3611b0]; rfl
      try rw [c3611b1]
      clear c3611
      replace HS : Aside0 (Sep (fps []) w [b8 g3591 g3593 t3579.2.1 t3579.2.2.1 t3579.2.2.2.1 t3579.2.2.2.2.1, b7 g3593 A3603 ((t3579.2.2.2.2.2.2.2.2.2.2.1).length) n3605 t3579.2.2.2.2.2.1, r6 A3603 ((t3579.2.2.2.2.2.2.2.2.2.2.1).length) n3605 t3579.2.2.2.2.2.2.2.2.2.2.1] w3582) := ⟨HS.out.sub (.cons_cons _ (.cons _ (.cons_cons _ (.cons _ (.cons _ (.cons _ (.cons_cons _ (.cons _ .slnil))))))))⟩
      go_wp2_with fail
      obtain ⟨t3612, HA3613, H⟩ := bind_some H
      refine (obj_Make.calls _ t3579.2.2.2.2.2.2.2.2.2.2.1 t3579.2.2.2.2.2.1 t3579.2.1 t3579.2.2.1 t3579.2.2.2.1 t3579.2.2.2.2.1 1 1 g3591 g3593 A3603 ((t3579.2.2.2.2.2.2.2.2.2.2.1).length) n3605 t3612 _ ⟨HGl0.out.pass HS.out⟩ ⟨HS.out.begin⟩ HA3613).mono ?_
      rintro e_ w3614 ⟨rfl, hS⟩
      replace HS : Aside0 (Sep (fps []) w [b8 g3591 g3593 t3579.2.1 t3579.2.2.1 t3579.2.2.2.1 t3579.2.2.2.2.1, b7 g3593 A3603 ((t3579.2.2.2.2.2.2.2.2.2.2.1).length) n3605 t3612.2.2.1, r6 A3603 ((t3579.2.2.2.2.2.2.2.2.2.2.1).length) n3605 t3612.2.2.2] w3614) := ⟨HS.out.call hS⟩
      clear hS
      go_wp2_with fail
      obtain ⟨t3615, HA3616, H⟩ := bind_some H
      refine (count_Up.calls t3612.2.2.2 t3612.2.2.1 t3579.2.1 t3579.2.2.1 t3579.2.2.2.1 t3579.2.2.2.2.1 t3612.1 g3591 g3593 A3603 ((t3579.2.2.2.2.2.2.2.2.2.2.1).length) n3605 t3615 _ ⟨HGl0.out.pass HS.out⟩ ⟨HS.out.begin⟩ HA3616).mono ?_
      rintro e_ w3617 ⟨rfl, hS⟩
      replace HS : Aside0 (Sep (fps []) w [b8 g3591 g3593 t3579.2.1 t3579.2.2.1 t3579.2.2.2.1 t3579.2.2.2.2.1, b7 g3593 A3603 ((t3579.2.2.2.2.2.2.2.2.2.2.1).length) n3605 t3615.2.2.1, r6 A3603 ((t3579.2.2.2.2.2.2.2.2.2.2.1).length) n3605 t3615.2.2.2] w3617) := ⟨HS.out.call hS⟩
      clear hS
      go_wp2_with fail
      obtain ⟨t3618, HA3619, H⟩ := bind_some H
      refine (count_Up.calls t3615.2.2.2 t3615.2.2.1 t3579.2.1 t3579.2.2.1 t3579.2.2.2.1 t3579.2.2.2.2.1 t3612.1 g3591 g3593 A3603 ((t3579.2.2.2.2.2.2.2.2.2.2.1).length) n3605 t3618 _ ⟨HGl0.out.pass HS.out⟩ ⟨HS.out.begin⟩ HA3619).mono ?_
      rintro e_ w3620 ⟨rfl, hS⟩
      replace HS : Aside0 (Sep (fps []) w [b8 g3591 g3593 t3579.2.1 t3579.2.2.1 t3579.2.2.2.1 t3579.2.2.2.2.1, b7 g3593 A3603 ((t3579.2.2.2.2.2.2.2.2.2.2.1).length) n3605 t3618.2.2.1, r6 A3603 ((t3579.2.2.2.2.2.2.2.2.2.2.1).length) n3605 t3618.2.2.2] w3620) := ⟨HS.out.call hS⟩
      clear hS
      go_wp2_with fail
      obtain ⟨t3621, HA3622, H⟩ := bind_some H
      refine (count_Down.calls t3618.2.2.2 t3618.2.2.1 t3579.2.1 t3579.2.2.1 t3579.2.2.2.1 t3579.2.2.2.2.1 t3612.1 g3591 g3593 A3603 ((t3579.2.2.2.2.2.2.2.2.2.2.1).length) n3605 t3621 _ ⟨HGl0.out.pass HS.out⟩ ⟨HS.out.begin⟩ HA3622).mono ?_
      rintro e_ w3623 ⟨rfl, hS⟩
      replace HS : Aside0 (Sep (fps []) w [b8 g3591 g3593 t3579.2.1 t3579.2.2.1 t3579.2.2.2.1 t3579.2.2.2.2.1, b7 g3593 A3603 ((t3579.2.2.2.2.2.2.2.2.2.2.1).length) n3605 t3621.2.2.1, r6 A3603 ((t3579.2.2.2.2.2.2.2.2.2.2.1).length) n3605 t3621.2.2.2] w3623) := ⟨HS.out.call hS⟩
      clear hS
      go_wp2_with fail
      obtain ⟨t3624, HA3625, H⟩ := bind_some H
      refine (count_Down.calls t3621.2.2.2 t3621.2.2.1 t3579.2.1 t3579.2.2.1 t3579.2.2.2.1 t3579.2.2.2.2.1 t3612.1 g3591 g3593 A3603 ((t3579.2.2.2.2.2.2.2.2.2.2.1).length) n3605 t3624 _ ⟨HGl0.out.pass HS.out⟩ ⟨HS.out.begin⟩ HA3625).mono ?_
      rintro e_ w3626 ⟨rfl, hS⟩
      replace HS : Aside0 (Sep (fps []) w [b8 g3591 g3593 t3579.2.1 t3579.2.2.1 t3579.2.2.2.1 t3579.2.2.2.2.1, b7 g3593 A3603 ((t3579.2.2.2.2.2.2.2.2.2.2.1).length) n3605 t3624.2.2.1, r6 A3603 ((t3579.2.2.2.2.2.2.2.2.2.2.1).length) n3605 t3624.2.2.2] w3626) := ⟨HS.out.call hS⟩
      clear hS
      go_wp2_with fail
      obtain ⟨t3627, HA3628, H⟩ := bind_some H
      refine (count_Down.calls t3624.2.2.2 t3624.2.2.1 t3579.2.1 t3579.2.2.1 t3579.2.2.2.1 t3579.2.2.2.2.1 t3612.1 g3591 g3593 A3603 ((t3579.2.2.2.2.2.2.2.2.2.2.1).length) n3605 t3627 _ ⟨HGl0.out.pass HS.out⟩ ⟨HS.out.begin⟩ HA3628).mono ?_
      rintro e_ w3629 ⟨rfl, hS⟩
      replace HS : Aside0 (Sep (fps []) w [b8 g3591 g3593 t3579.2.1 t3579.2.2.1 t3579.2.2.2.1 t3579.2.2.2.2.1, b7 g3593 A3603 ((t3579.2.2.2.2.2.2.2.2.2.2.1).length) n3605 t3627.2.2.1, r6 A3603 ((t3579.2.2.2.2.2.2.2.2.2.2.1).length) n3605 t3627.2.2.2] w3629) := ⟨HS.out.call hS⟩
      clear hS
      by_cases c3630 : t3612.2.1 = 0
      · replace H := if_yes c3630 H
        have c3630b0 : (t3612.2.1 == 0) = true := beq_iff_eq.mpr c3630
        have c3630b1 : (t3612.2.1 != 0) = false := bne_eq_false_iff_eq.mpr c3630
        clear c3630
        by_cases c3631 : t3615.1 = 1
        · replace H := if_yes c3631 H
          have c3631b0 : (t3615.1 == 1) = true := beq_iff_eq.mpr c3631
          have c3631b1 : (t3615.1 != 1) = false := bne_eq_false_iff_eq.mpr c3631
          clear c3631
          by_cases c3632 : t3618.1 = 2
          · replace H := if_yes c3632 H
            have c3632b0 : (t3618.1 == 2) = true := beq_iff_eq.mpr c3632
            have c3632b1 : (t3618.1 != 2) = false := bne_eq_false_iff_eq.mpr c3632
            clear c3632
            by_cases c3633 : t3621.1 = 1
            · replace H := if_yes c3633 H
              have c3633b0 : (t3621.1 == 1) = true := beq_iff_eq.mpr c3633
              have c3633b1 : (t3621.1 != 1) = false := bne_eq_false_iff_eq.mpr c3633
              clear c3633
              by_cases c3634 : t3621.2.1 = true
              · replace H := if_yes c3634 H
                have c3634b0 : t3621.2.1 = true := c3634
                have c3634b1 : (!t3621.2.1) = false := by rw [c3634b0]; rfl
                clear c3634
                by_cases c3635 : t3624.1 = 0
                · replace H := if_yes c3635 H
                  have c3635b0 : (t3624.1 == 0) = true := beq_iff_eq.mpr c3635
                  have c3635b1 : (t3624.1 != 0) = false := bne_eq_false_iff_eq.mpr c3635
                  clear c3635
                  by_cases c3636 : t3624.2.1 = true
                  · replace H := if_yes c3636 H
                    have c3636b0 : t3624.2.1 = true := c3636
                    have c3636b1 : (!t3624.2.1) = false := by rw [c3636b0]; rfl
                    clear c3636
                    by_cases c3637 : t3627.1 = 0
                    · replace H := if_yes c3637 H
                      have c3637b0 : (t3627.1 == 0) = true := beq_iff_eq.mpr c3637
                      have c3637b1 : (t3627.1 != 0) = false := bne_eq_false_iff_eq.mpr c3637
                      clear c3637
                      replace HS : Aside0 (Sep (fps []) w [] w3629) := ⟨HS.out.sub (.cons _ (.cons _ (.cons _ .slnil)))⟩
                      go_wp2_with fail
                      go_ret
                      rw [← some_eq H]
                      exact ⟨(by first | rfl | (simp [IntKind.wrap_u32]; done)), HS.out⟩
                    · replace H := if_no c3637 H
                      have c3637b0 : (t3627.1 == 0) = false := beq_eq_false_iff_ne.mpr c3637
                      have c3637b1 : (t3627.1 != 0) = true := bne_iff_ne.mpr c3637
                      clear c3637
                      replace HS : Aside0 (Sep (fps []) w [] w3629) := ⟨HS.out.sub (.cons _ (.cons _ (.cons _ .slnil)))⟩
                      go_wp2_with fail
                      go_ret
                      rw [← some_eq H]
                      exact ⟨(by first | rfl | (simp [IntKind.wrap_u32]; done)), HS.out⟩
                  · replace H := if_no c3636 H
                    have c3636b0 : t3624.2.1 = false := by simpa using c3636
                    have c3636b1 : (!t3624.2.1) = true := by rw [c3636b0]; rfl
                    clear c3636
                    replace HS : Aside0 (Sep (fps []) w [] w3629) := ⟨HS.out.sub (.cons _ (.cons _ (.cons _ .slnil)))⟩
                    go_wp2_with fail
                    go_ret
                    rw [← some_eq H]
                    exact ⟨(by first | rfl | (simp [IntKind.wrap_u32]; done)), HS.out⟩
                · replace H := if_no c3635 H
                  have c3635b0 : (t3624.1 == 0) = false := beq_eq_false_iff_ne.mpr c3635
                  have c3635b1 : (t3624.1 != 0) = true := bne_iff_ne.mpr c3635
                  clear c3635
                  replace HS : Aside0 (Sep (fps []) w [] w3629) := ⟨HS.out.sub (.cons _ (.cons _ (.cons _ .slnil)))⟩
                  go_wp2_with fail
                  go_ret
                  rw [← some_eq H]
                  exact ⟨(by first | rfl | (simp [IntKind.wrap_u32]; done)), HS.out⟩
              · replace H := if_no c3634 H
                have c3634b0 : t3621.2.1 = false := by simpa using c3634
                have c3634b1 : (!t3621.2.1) = true := by rw [c3634b0]; rfl
                clear c3634
                replace HS : Aside0 (Sep (fps []) w [] w3629) := ⟨HS.out.sub (.cons _ (.cons _ (.cons _ .slnil)))⟩
                go_wp2_with fail
                go_ret
                rw [← some_eq H]
                exact ⟨(by first | rfl | (simp [IntKind.wrap_u32]; done)), HS.out⟩
            · replace H := if_no c3633 H
              have c3633b0 : (t3621.1 == 1) = false := beq_eq_false_iff_ne.mpr c3633
              have c3633b1 : (t3621.1 != 1) = true := bne_iff_ne.mpr c3633
              clear c3633
              replace HS : Aside0 (Sep (fps []) w [] w3629) := ⟨HS.out.sub (.cons _ (.cons _ (.cons _ .slnil)))⟩
              go_wp2_with fail
              go_ret
              rw [← some_eq H]
              exact ⟨(by first | rfl | (simp [IntKind.wrap_u32]; done)), HS.out⟩
          · replace H := if_no c3632 H
            have c3632b0 : (t3618.1 == 2) = false := beq_eq_false_iff_ne.mpr c3632
            have c3632b1 : (t3618.1 != 2) = true := bne_iff_ne.mpr c3632
            clear c3632
            replace HS : Aside0 (Sep (fps []) w [] w3629) := ⟨HS.out.sub (.cons _ (.cons _ (.cons _ .slnil)))⟩
            go_wp2_with fail
            go_ret
            rw [← some_eq H]
            exact ⟨(by first | rfl | (simp [IntKind.wrap_u32]; done)), HS.out⟩
        · replace H := if_no c3631 H
          have c3631b0 : (t3615.1 == 1) = false := beq_eq_false_iff_ne.mpr c3631
          have c3631b1 : (t3615.1 != 1) = true := bne_iff_ne.mpr c3631
          clear c3631
          replace HS : Aside0 (Sep (fps []) w [] w3629) := ⟨HS.out.sub (.cons _ (.cons _ (.cons _ .slnil)))⟩
          go_wp2_with fail
          go_ret
          rw [← some_eq H]
          exact ⟨(by first | rfl | (simp [IntKind.wrap_u32]; done)), HS.out⟩
      · replace H := if_no c3630 H
        have c3630b0 : (t3612.2.1 == 0) = false := beq_eq_false_iff_ne.mpr c3630
        have c3630b1 : (t3612.2.1 != 0) = true := bne_iff_ne.mpr c3630
        clear c3630
        replace HS : Aside0 (Sep (fps []) w [] w3629) := ⟨HS.out.sub (.cons _ (.cons _ (.cons _ .slnil)))⟩
        go_wp2_with fail
        go_ret
        rw [← some_eq H]
        exact ⟨(by first | rfl | (simp [IntKind.wrap_u32]; done)), HS.out⟩
    · replace H := if_no c3611 H
      have c3611b0 : t3579.1 = false := by simpa using c3611
      have c3611b1 : (!t3579.1) = true := by rw [c3611b0]; rfl
      try rw [c3611b1]
      clear c3611
      replace HS : Aside0 (Sep (fps []) w [b8 g3591 g3593 t3579.2.1 t3579.2.2.1 t3579.2.2.2.1 t3579.2.2.2.2.1, b7 g3593 A3603 ((t3579.2.2.2.2.2.2.2.2.2.2.1).length) n3605 t3579.2.2.2.2.2.1, r6 A3603 ((t3579.2.2.2.2.2.2.2.2.2.2.1).length) n3605 t3579.2.2.2.2.2.2.2.2.2.2.1] w3582) := ⟨HS.out.sub (.cons_cons _ (.cons _ (.cons_cons _ (.cons _ (.cons _ (.cons _ (.cons_cons _ (.cons _ .slnil))))))))⟩
      replace HS : Aside0 (Sep (fps []) w [] w3582) := ⟨HS.out.sub (.cons _ (.cons _ (.cons _ .slnil)))⟩
      go_wp2_with fail
      go_ret
      rw [← some_eq H]
      exact ⟨(by first | rfl | (simp [IntKind.wrap_u32]; done)), HS.out⟩

set_option maxHeartbeats 30000000 in
set_option maxRecDepth 100000 in
theorem count_Of.calls (l3649 : List Int) (a3654 : Int) (a3655 : Int) (a3656 : Int) (a3657 : Int) (a3658 : Int) (a3659 : Int) (g3645 : Nat) (g3647 : Nat) (A3650 : Option Addr) (m3651 : Nat) (n3652 : Nat) (r : Int × Int) (w : World)  (HGl0 : Aside0 (Gl 0 #[.int .i64 0, .int .i64 0, .int .i64 0, .int .i64 0, .int .i64 0] (fps [b8 g3645 g3647 a3655 a3656 a3657 a3658, b7 g3647 A3650 m3651 n3652 a3654, r6 A3650 m3651 n3652 l3649]) w)) (HS : Aside0 (Sep (fps [b8 g3645 g3647 a3655 a3656 a3657 a3658, b7 g3647 A3650 m3651 n3652 a3654, r6 A3650 m3651 n3652 l3649]) w [b8 g3645 g3647 a3655 a3656 a3657 a3658, b7 g3647 A3650 m3651 n3652 a3654, r6 A3650 m3651 n3652 l3649] w)) (H : Aside0 (count_Of.f l3649 a3654 a3655 a3656 a3657 a3658 a3659 = some r)) :
    Calls Tryd.prog 39 #[.pointer (some ⟨g3645, 0, none⟩), .int .i64 a3659] w fun e w' => e = .returned (.int .i64 r.1) ∧ Sep (fps [b8 g3645 g3647 a3655 a3656 a3657 a3658, b7 g3647 A3650 m3651 n3652 a3654, r6 A3650 m3651 n3652 l3649]) w [b8 g3645 g3647 a3655 a3656 a3657 a3658, b7 g3647 A3650 m3651 n3652 r.2, r6 A3650 m3651 n3652 l3649] w' := by
  generalize (fps [b8 g3645 g3647 a3655 a3656 a3657 a3658, b7 g3647 A3650 m3651 n3652 a3654, r6 A3650 m3651 n3652 l3649]) = FF at HS HGl0 ⊢
  obtain rfl := (row_len (HS.out.at2)).symm
  unfold count_Of.f at H
  go_enter Tryd.func39, Tryd.ntmps39
  go_wp2_with fail
  obtain ⟨t3667, HA3668, H⟩ := bind_some H
  refine (obj_Is.calls l3649 a3654 a3655 a3656 a3657 a3658 a3659 g3645 g3647 A3650 l3649.length n3652 t3667 _ ⟨HGl0.out.pass HS.out⟩ ⟨HS.out.begin⟩ HA3668).mono ?_
  rintro e_ w3669 ⟨rfl, hS⟩
  replace HS : Aside0 (Sep FF w [b8 g3645 g3647 a3655 a3656 a3657 a3658, b7 g3647 A3650 l3649.length n3652 t3667.2, r6 A3650 l3649.length n3652 l3649] w3669) := ⟨HS.out.call hS⟩
  clear hS
  by_cases c3670 : t3667.1 = true
  · replace H := if_yes c3670 H
    have c3670b0 : t3667.1 = true := c3670
    have c3670b1 : (!t3667.1) = false := by rw [c3670b0]; rfl
    try rw [c3670b1]
    clear c3670
    go_wp2_with fail
    obtain ⟨t3671, HA3672, H⟩ := bind_some H
    refine (ground_Ground_Word.calls l3649 t3667.2 a3655 a3656 a3657 a3658 (wrap64 (a3659 - 1)) 3 g3645 g3647 A3650 l3649.length n3652 t3671 _ ⟨HGl0.out.pass HS.out⟩ ⟨HS.out.begin⟩ HA3672).mono ?_
    rintro e_ w3673 ⟨rfl, hS⟩
    replace HS : Aside0 (Sep FF w [b8 g3645 g3647 a3655 a3656 a3657 a3658, b7 g3647 A3650 l3649.length n3652 t3671.2, r6 A3650 l3649.length n3652 l3649] w3673) := ⟨HS.out.call hS⟩
    clear hS
    go_wp2_with fail
    go_ret
    rw [← some_eq H]
    exact ⟨(by first | rfl | (simp [IntKind.wrap_u32]; done)), HS.out⟩
  · replace H := if_no c3670 H
    have c3670b0 : t3667.1 = false := by simpa using c3670
    have c3670b1 : (!t3667.1) = true := by rw [c3670b0]; rfl
    try rw [c3670b1]
    clear c3670
    go_wp2_with fail
    go_ret
    rw [← some_eq H]
    exact ⟨(by first | rfl | (simp [IntKind.wrap_u32]; done)), HS.out⟩

set_option maxHeartbeats 30000000 in
set_option maxRecDepth 100000 in
theorem quitrentref01_Ints.calls (k : Nat) (l3684 : List Int) (l3688 : List Int) (A3685 : Option Addr) (n3686 : Nat) (A3689 : Option Addr) (n3690 : Nat) (r : Bool) (w : World) (HR3687 : Aside0 (Rd (Kd.int .i64) (fps []) w A3685 l3684.length l3684)) (HR3691 : Aside0 (Rd (Kd.int .i64) (fps []) w A3689 l3688.length l3688)) (HGl0 : Aside0 (Gl 0 #[.int .i64 0, .int .i64 0, .int .i64 0, .int .i64 0, .int .i64 0] (fps []) w)) (HS : Aside0 (Sep (fps []) w [] w)) (H : Aside0 (quitrentref01_Ints.f k l3684 l3688 = some r)) :
    Calls Tryd.prog 32 #[.slice A3685 l3684.length n3686, .slice A3689 l3688.length n3690] w fun e w' => e = .returned (.bool r) ∧ Sep (fps []) w [] w' := by
  unfold quitrentref01_Ints.f at H
  go_enter Tryd.func32, Tryd.ntmps32
  by_cases c3692 : (l3684.length : Int) = (l3688.length : Int)
  · replace H := if_yes c3692 H
    have c3692b0 : ((l3684.length : Int) == (l3688.length : Int)) = true := beq_iff_eq.mpr c3692
    have c3692b1 : ((l3684.length : Int) != (l3688.length : Int)) = false := bne_eq_false_iff_eq.mpr c3692
    clear c3692
    go_wp2_with fail
    obtain ⟨o3708, AL3709, H⟩ := bind_some H
    go_loopg [5] k (fun kq v5 wc => ∃ (x3712 : Int), v5 = .int .i64 x3712 ∧ Aside0 (quitrentref01_Ints.lo0 kq l3684 l3688 x3712 = some o3708) ∧ Aside0 (Sep (fps []) w [] wc))
    case atStart => exact ⟨(0), (by first | rfl | (simp [IntKind.wrap_u32]; done)), AL3709, ⟨HS.out⟩⟩
    case round =>
      clear AL3709 HS
      obtain ⟨x3712, rfl, AL3709, HS⟩ := hrel
      obtain ⟨w3710, rfl⟩ : ∃ x : World, x = wr := ⟨_, rfl⟩
      cases gk with
      | zero => exact absurd AL3709.out (by simp [quitrentref01_Ints.lo0])
      | succ k3711 =>
        have AL0 := AL3709.out
        rw [quitrentref01_Ints.lo0] at AL0
        clear AL3709
        have AL3709 := Aside0.mk AL0
        clear AL0
        by_cases c3713 : x3712 < (l3684.length : Int)
        · replace AL3709 := if_yes c3713 AL3709
          have c3713b0 : decide (x3712 < (l3684.length : Int)) = true := decide_eq_true c3713
          clear c3713
          go_wp2_with fail
          refine start_ (n := 9) (S := (fun w' => Kd.C (Kd.int .i64) w' A3685 l3684.length l3684 ∧ Kd.C (Kd.int .i64) w' A3689 l3688.length l3688)) (ds := []) #[false, false, false, false, false, false, false, false, false] (by kernel_rfl) rfl rfl (⟨Rd.read (fun _ _ _ _ h => h) HR3687.out (HS.out.drew).fr, Rd.read (fun _ _ _ _ h => h) HR3691.out (HS.out.drew).fr⟩) (fun hHeld => ?_)
          have HS_ := Aside0.mk HS.out.drew
          clear HS
          generalize World.drew _ = w3715 at HS_ hHeld ⊢
          have HS := HS_
          clear HS_
          refine pure_ (i := 0) (N := some 17) (v := ?_) (a' := ?_) #[true, false, false, false, false, false, false, false, false] rfl rfl (by kernel_rfl) (fun _ _ _ h => h) (Or.inl ⟨by rfl, ?_⟩) ?_ ?_
          rotate_left
          · intro w'
            go_simp
            with_reducible rfl
          rotate_left
          · simp only [Act.put, List.setIfInBounds_toArray, List.set_cons_zero, List.set_cons_succ, i64_w, i32_w]
            rfl
          refine pure_ (i := 1) (N := some 18) (v := ?_) (a' := ?_) #[true, true, false, false, false, false, false, false, false] rfl rfl (by kernel_rfl) (fun _ _ _ h => h) (Or.inl ⟨by rfl, ?_⟩) ?_ ?_
          rotate_left
          · intro w'
            go_simp
            with_reducible rfl
          rotate_left
          · simp only [Act.put, List.setIfInBounds_toArray, List.set_cons_zero, List.set_cons_succ, i64_w, i32_w]
            rfl
          by_cases c3716 : 0 ≤ x3712
          · replace AL3709 := if_yes c3716 AL3709
            have c3716b0 : decide (0 ≤ x3712) = true := decide_eq_true c3716
            have c3716p : (0 ≤ x3712) = True := eq_true c3716
            clear c3716
            have ip3717 : (x3712 < (l3684.length : Int)) = True := eq_true (of_decide_eq_true c3713b0)
            obtain ⟨ad3718, ea, _⟩ := Kd.at_int (Rd.read (fun _ _ _ _ h => h) HR3687.out HS.out.fr) x3712 (of_decide_eq_true c3716b0) (of_decide_eq_true c3713b0)
            cases ea
            refine pure_ (i := 2) (N := some 19) (v := ?_) (a' := ?_) #[true, true, true, false, false, false, false, false, false] rfl rfl (by kernel_rfl) (fun _ _ _ h => h) (Or.inl ⟨by rfl, ?_⟩) ?_ ?_
            rotate_left
            · intro w'
              go_simp
              with_reducible rfl
            rotate_left
            · simp only [Act.put, List.setIfInBounds_toArray, List.set_cons_zero, List.set_cons_succ, i64_w, i32_w]
              rfl
            refine pure_ (i := 4) (N := some 21) (v := ?_) (a' := ?_) #[true, true, true, false, true, false, false, false, false] rfl rfl (by kernel_rfl) (fun _ _ _ h => h) (Or.inl ⟨by rfl, ?_⟩) ?_ ?_
            rotate_left
            · intro w'
              go_simp
              with_reducible rfl
            rotate_left
            · simp only [Act.put, List.setIfInBounds_toArray, List.set_cons_zero, List.set_cons_succ, i64_w, i32_w]
              rfl
            refine pure_ (i := 5) (N := some 22) (v := ?_) (a' := ?_) #[true, true, true, false, true, true, false, false, false] rfl rfl (by kernel_rfl) (fun _ _ _ h => h) (Or.inl ⟨by rfl, ?_⟩) ?_ ?_
            rotate_left
            · intro w'
              go_simp
              with_reducible rfl
            rotate_left
            · simp only [Act.put, List.setIfInBounds_toArray, List.set_cons_zero, List.set_cons_succ, i64_w, i32_w]
              rfl
            by_cases c3719 : x3712 < (l3688.length : Int)
            · replace AL3709 := if_yes c3719 AL3709
              have c3719b0 : decide (x3712 < (l3688.length : Int)) = true := decide_eq_true c3719
              have c3719p : (x3712 < (l3688.length : Int)) = True := eq_true c3719
              clear c3719
              obtain ⟨ad3720, ea, _⟩ := Kd.at_int (Rd.read (fun _ _ _ _ h => h) HR3691.out HS.out.fr) x3712 (of_decide_eq_true c3716b0) (of_decide_eq_true c3719b0)
              cases ea
              refine pure_ (i := 6) (N := some 23) (v := ?_) (a' := ?_) #[true, true, true, false, true, true, true, false, false] rfl rfl (by kernel_rfl) (fun _ _ _ h => h) (Or.inl ⟨by rfl, ?_⟩) ?_ ?_
              rotate_left
              · intro w'
                go_simp
                with_reducible rfl
              rotate_left
              · simp only [Act.put, List.setIfInBounds_toArray, List.set_cons_zero, List.set_cons_succ, i64_w, i32_w]
                rfl
              refine take_ (i := 3) (N := some 20) (v := ?_) (a' := ?_) #[true, true, true, true, true, true, true, false, false] rfl rfl (by kernel_rfl) (fun _ _ _ h => h) (Or.inl ⟨by rfl, ?_⟩) hHeld ?_ ?_
              rotate_left
              · rintro w' hS'
                obtain ⟨s0, s1⟩ := hS'
                have hx := C_at_int s0 x3712 (of_decide_eq_true c3716b0) (of_decide_eq_true c3713b0)
                go_simp
                with_reducible rfl
              rotate_left
              · simp only [Act.put, List.setIfInBounds_toArray, List.set_cons_zero, List.set_cons_succ, i64_w, i32_w]
                rfl
              refine take_ (i := 7) (N := some 24) (v := ?_) (a' := ?_) #[true, true, true, true, true, true, true, true, false] rfl rfl (by kernel_rfl) (fun _ _ _ h => h) (Or.inl ⟨by rfl, ?_⟩) hHeld ?_ ?_
              rotate_left
              · rintro w' hS'
                obtain ⟨s0, s1⟩ := hS'
                have hx := C_at_int s1 x3712 (of_decide_eq_true c3716b0) (of_decide_eq_true c3719b0)
                go_simp
                with_reducible rfl
              rotate_left
              · simp only [Act.put, List.setIfInBounds_toArray, List.set_cons_zero, List.set_cons_succ, i64_w, i32_w]
                rfl
              refine pure_ (i := 8) (N := some 25) (v := ?_) (a' := ?_) #[true, true, true, true, true, true, true, true, true] rfl rfl (by kernel_rfl) (fun _ _ _ h => h) (Or.inl ⟨by rfl, ?_⟩) ?_ ?_
              rotate_left
              · intro w'
                go_simp
                with_reducible rfl
              rotate_left
              · simp only [Act.put, List.setIfInBounds_toArray, List.set_cons_zero, List.set_cons_succ, i64_w, i32_w]
                rfl
              refine done_ (by kernel_rfl) ?_
              by_cases c3721 : (rd l3684 x3712) = (rd l3688 x3712)
              · replace AL3709 := if_yes c3721 AL3709
                have c3721b0 : ((rd l3684 x3712) == (rd l3688 x3712)) = true := beq_iff_eq.mpr c3721
                have c3721b1 : ((rd l3684 x3712) != (rd l3688 x3712)) = false := bne_eq_false_iff_eq.mpr c3721
                clear c3721
                go_wp2_with fail
                go_roundg k3711
                case measure => exact Nat.lt_succ_self _
                case rel => exact ⟨(wrap64 (x3712 + 1)), (by first | rfl | (simp [IntKind.wrap_u32]; done)), Aside0.mk AL3709.out, ⟨HS.out⟩⟩
              · replace AL3709 := if_no c3721 AL3709
                have c3721b0 : ((rd l3684 x3712) == (rd l3688 x3712)) = false := beq_eq_false_iff_ne.mpr c3721
                have c3721b1 : ((rd l3684 x3712) != (rd l3688 x3712)) = true := bne_iff_ne.mpr c3721
                clear c3721
                go_wp2_with fail
                have ho := some_eq AL3709
                subst ho
                have H := lp_ret H
                go_ret
                rw [← some_eq H]
                exact ⟨(by first | rfl | (simp [IntKind.wrap_u32]; done)), HS.out⟩
            · replace AL3709 := if_no c3719 AL3709
              have c3719b0 : decide (x3712 < (l3688.length : Int)) = false := decide_eq_false c3719
              clear c3719
              exact (none_no AL3709).elim
          · replace AL3709 := if_no c3716 AL3709
            have c3716b0 : decide (0 ≤ x3712) = false := decide_eq_false c3716
            clear c3716
            exact (none_no AL3709).elim
        · replace AL3709 := if_no c3713 AL3709
          have c3713b0 : decide (x3712 < (l3684.length : Int)) = false := decide_eq_false c3713
          clear c3713
          have ho := some_eq AL3709
          subst ho
          clear AL3709
          have H := lp_out H
          go_wp2_with fail
          go_ret
          rw [← some_eq H]
          exact ⟨(by first | rfl | (simp [IntKind.wrap_u32]; done)), HS.out⟩
  · replace H := if_no c3692 H
    have c3692b0 : ((l3684.length : Int) == (l3688.length : Int)) = false := beq_eq_false_iff_ne.mpr c3692
    have c3692b1 : ((l3684.length : Int) != (l3688.length : Int)) = true := bne_iff_ne.mpr c3692
    clear c3692
    go_wp2_with fail
    go_ret
    rw [← some_eq H]
    exact ⟨(by first | rfl | (simp [IntKind.wrap_u32]; done)), HS.out⟩

set_option maxHeartbeats 30000000 in
set_option maxRecDepth 100000 in
theorem quitrentref01_Same.calls (k : Nat) (l3729 : List Int) (l3733 : List Int) (A3730 : Option Addr) (n3731 : Nat) (A3734 : Option Addr) (n3735 : Nat) (r : Bool) (w : World) (HR3732 : Aside0 (Rd (Kd.int .u32) (fps []) w A3730 l3729.length l3729)) (HR3736 : Aside0 (Rd (Kd.int .u32) (fps []) w A3734 l3733.length l3733)) (HGl0 : Aside0 (Gl 0 #[.int .i64 0, .int .i64 0, .int .i64 0, .int .i64 0, .int .i64 0] (fps []) w)) (HS : Aside0 (Sep (fps []) w [] w)) (H : Aside0 (quitrentref01_Same.f k l3729 l3733 = some r)) :
    Calls Tryd.prog 40 #[.slice A3730 l3729.length n3731, .slice A3734 l3733.length n3735] w fun e w' => e = .returned (.bool r) ∧ Sep (fps []) w [] w' := by
  unfold quitrentref01_Same.f at H
  go_enter Tryd.func40, Tryd.ntmps40
  by_cases c3737 : (l3729.length : Int) = (l3733.length : Int)
  · replace H := if_yes c3737 H
    have c3737b0 : ((l3729.length : Int) == (l3733.length : Int)) = true := beq_iff_eq.mpr c3737
    have c3737b1 : ((l3729.length : Int) != (l3733.length : Int)) = false := bne_eq_false_iff_eq.mpr c3737
    clear c3737
    go_wp2_with fail
    obtain ⟨o3753, AL3754, H⟩ := bind_some H
    go_loopg [5] k (fun kq v5 wc => ∃ (x3757 : Int), v5 = .int .i64 x3757 ∧ Aside0 (quitrentref01_Same.lo0 kq l3729 l3733 x3757 = some o3753) ∧ Aside0 (Sep (fps []) w [] wc))
    case atStart => exact ⟨(0), (by first | rfl | (simp [IntKind.wrap_u32]; done)), AL3754, ⟨HS.out⟩⟩
    case round =>
      clear AL3754 HS
      obtain ⟨x3757, rfl, AL3754, HS⟩ := hrel
      obtain ⟨w3755, rfl⟩ : ∃ x : World, x = wr := ⟨_, rfl⟩
      cases gk with
      | zero => exact absurd AL3754.out (by simp [quitrentref01_Same.lo0])
      | succ k3756 =>
        have AL0 := AL3754.out
        rw [quitrentref01_Same.lo0] at AL0
        clear AL3754
        have AL3754 := Aside0.mk AL0
        clear AL0
        by_cases c3758 : x3757 < (l3729.length : Int)
        · replace AL3754 := if_yes c3758 AL3754
          have c3758b0 : decide (x3757 < (l3729.length : Int)) = true := decide_eq_true c3758
          clear c3758
          go_wp2_with fail
          refine start_ (n := 9) (S := (fun w' => Kd.C (Kd.int .u32) w' A3730 l3729.length l3729 ∧ Kd.C (Kd.int .u32) w' A3734 l3733.length l3733)) (ds := []) #[false, false, false, false, false, false, false, false, false] (by kernel_rfl) rfl rfl (⟨Rd.read (fun _ _ _ _ h => h) HR3732.out (HS.out.drew).fr, Rd.read (fun _ _ _ _ h => h) HR3736.out (HS.out.drew).fr⟩) (fun hHeld => ?_)
          have HS_ := Aside0.mk HS.out.drew
          clear HS
          generalize World.drew _ = w3760 at HS_ hHeld ⊢
          have HS := HS_
          clear HS_
          refine pure_ (i := 0) (N := some 17) (v := ?_) (a' := ?_) #[true, false, false, false, false, false, false, false, false] rfl rfl (by kernel_rfl) (fun _ _ _ h => h) (Or.inl ⟨by rfl, ?_⟩) ?_ ?_
          rotate_left
          · intro w'
            go_simp
            with_reducible rfl
          rotate_left
          · simp only [Act.put, List.setIfInBounds_toArray, List.set_cons_zero, List.set_cons_succ, i64_w, i32_w]
            rfl
          refine pure_ (i := 1) (N := some 18) (v := ?_) (a' := ?_) #[true, true, false, false, false, false, false, false, false] rfl rfl (by kernel_rfl) (fun _ _ _ h => h) (Or.inl ⟨by rfl, ?_⟩) ?_ ?_
          rotate_left
          · intro w'
            go_simp
            with_reducible rfl
          rotate_left
          · simp only [Act.put, List.setIfInBounds_toArray, List.set_cons_zero, List.set_cons_succ, i64_w, i32_w]
            rfl
          by_cases c3761 : 0 ≤ x3757
          · replace AL3754 := if_yes c3761 AL3754
            have c3761b0 : decide (0 ≤ x3757) = true := decide_eq_true c3761
            have c3761p : (0 ≤ x3757) = True := eq_true c3761
            clear c3761
            have ip3762 : (x3757 < (l3729.length : Int)) = True := eq_true (of_decide_eq_true c3758b0)
            obtain ⟨ad3763, ea, _⟩ := Kd.at_int (Rd.read (fun _ _ _ _ h => h) HR3732.out HS.out.fr) x3757 (of_decide_eq_true c3761b0) (of_decide_eq_true c3758b0)
            cases ea
            refine pure_ (i := 2) (N := some 19) (v := ?_) (a' := ?_) #[true, true, true, false, false, false, false, false, false] rfl rfl (by kernel_rfl) (fun _ _ _ h => h) (Or.inl ⟨by rfl, ?_⟩) ?_ ?_
            rotate_left
            · intro w'
              go_simp
              with_reducible rfl
            rotate_left
            · simp only [Act.put, List.setIfInBounds_toArray, List.set_cons_zero, List.set_cons_succ, i64_w, i32_w]
              rfl
            refine pure_ (i := 4) (N := some 21) (v := ?_) (a' := ?_) #[true, true, true, false, true, false, false, false, false] rfl rfl (by kernel_rfl) (fun _ _ _ h => h) (Or.inl ⟨by rfl, ?_⟩) ?_ ?_
            rotate_left
            · intro w'
              go_simp
              with_reducible rfl
            rotate_left
            · simp only [Act.put, List.setIfInBounds_toArray, List.set_cons_zero, List.set_cons_succ, i64_w, i32_w]
              rfl
            refine pure_ (i := 5) (N := some 22) (v := ?_) (a' := ?_) #[true, true, true, false, true, true, false, false, false] rfl rfl (by kernel_rfl) (fun _ _ _ h => h) (Or.inl ⟨by rfl, ?_⟩) ?_ ?_
            rotate_left
            · intro w'
              go_simp
              with_reducible rfl
            rotate_left
            · simp only [Act.put, List.setIfInBounds_toArray, List.set_cons_zero, List.set_cons_succ, i64_w, i32_w]
              rfl
            by_cases c3764 : x3757 < (l3733.length : Int)
            · replace AL3754 := if_yes c3764 AL3754
              have c3764b0 : decide (x3757 < (l3733.length : Int)) = true := decide_eq_true c3764
              have c3764p : (x3757 < (l3733.length : Int)) = True := eq_true c3764
              clear c3764
              obtain ⟨ad3765, ea, _⟩ := Kd.at_int (Rd.read (fun _ _ _ _ h => h) HR3736.out HS.out.fr) x3757 (of_decide_eq_true c3761b0) (of_decide_eq_true c3764b0)
              cases ea
              refine pure_ (i := 6) (N := some 23) (v := ?_) (a' := ?_) #[true, true, true, false, true, true, true, false, false] rfl rfl (by kernel_rfl) (fun _ _ _ h => h) (Or.inl ⟨by rfl, ?_⟩) ?_ ?_
              rotate_left
              · intro w'
                go_simp
                with_reducible rfl
              rotate_left
              · simp only [Act.put, List.setIfInBounds_toArray, List.set_cons_zero, List.set_cons_succ, i64_w, i32_w]
                rfl
              refine take_ (i := 3) (N := some 20) (v := ?_) (a' := ?_) #[true, true, true, true, true, true, true, false, false] rfl rfl (by kernel_rfl) (fun _ _ _ h => h) (Or.inl ⟨by rfl, ?_⟩) hHeld ?_ ?_
              rotate_left
              · rintro w' hS'
                obtain ⟨s0, s1⟩ := hS'
                have hx := C_at_int s0 x3757 (of_decide_eq_true c3761b0) (of_decide_eq_true c3758b0)
                go_simp
                with_reducible rfl
              rotate_left
              · simp only [Act.put, List.setIfInBounds_toArray, List.set_cons_zero, List.set_cons_succ, i64_w, i32_w]
                rfl
              refine take_ (i := 7) (N := some 24) (v := ?_) (a' := ?_) #[true, true, true, true, true, true, true, true, false] rfl rfl (by kernel_rfl) (fun _ _ _ h => h) (Or.inl ⟨by rfl, ?_⟩) hHeld ?_ ?_
              rotate_left
              · rintro w' hS'
                obtain ⟨s0, s1⟩ := hS'
                have hx := C_at_int s1 x3757 (of_decide_eq_true c3761b0) (of_decide_eq_true c3764b0)
                go_simp
                with_reducible rfl
              rotate_left
              · simp only [Act.put, List.setIfInBounds_toArray, List.set_cons_zero, List.set_cons_succ, i64_w, i32_w]
                rfl
              refine pure_ (i := 8) (N := some 25) (v := ?_) (a' := ?_) #[true, true, true, true, true, true, true, true, true] rfl rfl (by kernel_rfl) (fun _ _ _ h => h) (Or.inl ⟨by rfl, ?_⟩) ?_ ?_
              rotate_left
              · intro w'
                go_simp
                with_reducible rfl
              rotate_left
              · simp only [Act.put, List.setIfInBounds_toArray, List.set_cons_zero, List.set_cons_succ, i64_w, i32_w]
                rfl
              refine done_ (by kernel_rfl) ?_
              by_cases c3766 : (rd l3729 x3757) = (rd l3733 x3757)
              · replace AL3754 := if_yes c3766 AL3754
                have c3766b0 : ((rd l3729 x3757) == (rd l3733 x3757)) = true := beq_iff_eq.mpr c3766
                have c3766b1 : ((rd l3729 x3757) != (rd l3733 x3757)) = false := bne_eq_false_iff_eq.mpr c3766
                clear c3766
                go_wp2_with fail
                go_roundg k3756
                case measure => exact Nat.lt_succ_self _
                case rel => exact ⟨(wrap64 (x3757 + 1)), (by first | rfl | (simp [IntKind.wrap_u32]; done)), Aside0.mk AL3754.out, ⟨HS.out⟩⟩
              · replace AL3754 := if_no c3766 AL3754
                have c3766b0 : ((rd l3729 x3757) == (rd l3733 x3757)) = false := beq_eq_false_iff_ne.mpr c3766
                have c3766b1 : ((rd l3729 x3757) != (rd l3733 x3757)) = true := bne_iff_ne.mpr c3766
                clear c3766
                go_wp2_with fail
                have ho := some_eq AL3754
                subst ho
                have H := lp_ret H
                go_ret
                rw [← some_eq H]
                exact ⟨(by first | rfl | (simp [IntKind.wrap_u32]; done)), HS.out⟩
            · replace AL3754 := if_no c3764 AL3754
              have c3764b0 : decide (x3757 < (l3733.length : Int)) = false := decide_eq_false c3764
              clear c3764
              exact (none_no AL3754).elim
          · replace AL3754 := if_no c3761 AL3754
            have c3761b0 : decide (0 ≤ x3757) = false := decide_eq_false c3761
            clear c3761
            exact (none_no AL3754).elim
        · replace AL3754 := if_no c3758 AL3754
          have c3758b0 : decide (x3757 < (l3729.length : Int)) = false := decide_eq_false c3758
          clear c3758
          have ho := some_eq AL3754
          subst ho
          clear AL3754
          have H := lp_out H
          go_wp2_with fail
          go_ret
          rw [← some_eq H]
          exact ⟨(by first | rfl | (simp [IntKind.wrap_u32]; done)), HS.out⟩
  · replace H := if_no c3737 H
    have c3737b0 : ((l3729.length : Int) == (l3733.length : Int)) = false := beq_eq_false_iff_ne.mpr c3737
    have c3737b1 : ((l3729.length : Int) != (l3733.length : Int)) = true := bne_iff_ne.mpr c3737
    clear c3737
    go_wp2_with fail
    go_ret
    rw [← some_eq H]
    exact ⟨(by first | rfl | (simp [IntKind.wrap_u32]; done)), HS.out⟩

set_option maxHeartbeats 30000000 in
set_option maxRecDepth 100000 in
theorem quitrentlaw12_CountAlone.calls (k : Nat) (a1 : Int) (a2 : Int) (a3 : Int) (a4 : Int) (a5 : Int) (a6 : Int) (r : Bool) (w : World)  (HGl0 : Aside0 (Gl 0 #[.int .i64 0, .int .i64 0, .int .i64 0, .int .i64 0, .int .i64 0] (fps []) w)) (HS : Aside0 (Sep (fps []) w [] w)) (H : Aside0 (quitrentlaw12_CountAlone.f k a1 a2 a3 a4 a5 a6 = some r)) :
    Calls Tryd.prog 7 #[.agg #[.int .i64 a1, .int .i64 a2], .agg #[.int .i64 a3, .int .i64 a4], .int .u8 a5, .int .u8 a6] w fun e w' => e = .returned (.bool r) ∧ Sep (fps []) w [] w' := by
  unfold quitrentlaw12_CountAlone.f at H
  go_enter Tryd.func7, Tryd.ntmps7
  go_wp2_with (first | ((with_reducible refine gate_dst (N := 4) rfl ?_); refine box_on ?hg (N := 4) ?hd (cs := #[.int .i64 a1, .int .i64 a2]) (t := 63) ?hr ?_; (case hd => rfl); (case hg => rfl); (case hr => first | (go_simp; done) | (go_simp; rfl)); intro g7 hg w8 hbox hb; replace HS : Aside0 (Sep (fps []) w [b1 g7 a1 a2] w8) := ⟨HS.out.box hg hbox hb⟩; clear hg hbox hb) | ((with_reducible refine gate_dst (N := 5) rfl ?_); refine box_on ?hg (N := 5) ?hd (cs := #[.int .i64 a3, .int .i64 a4]) (t := 63) ?hr ?_; (case hd => rfl); (case hg => rfl); (case hr => first | (go_simp; done) | (go_simp; rfl)); intro g10 hg w11 hbox hb; replace HS : Aside0 (Sep (fps []) w [b1 g7 a1 a2, b1 g10 a3 a4] w11) := ⟨HS.out.box hg hbox hb⟩; clear hg hbox hb))
  obtain ⟨t1823, HA1824, H⟩ := bind_some H
  rcases t1823 with t1825 | t1826
  · have H := sum_l H
    refine (quitrentlaw12_Opened.calls _ 30 16 1 1 (.inl t1825) _ ⟨HGl0.out.pass (l := []) HS.out⟩ ⟨Sep.start _⟩ HA1824).mono ?_
    rintro e_ w1827 ⟨rfl, hS⟩
    replace HS : Aside0 (Sep (fps []) w [b1 g7 a1 a2, b1 g10 a3 a4] w1827) := ⟨HS.out.call hS⟩
    clear hS
    by_cases c1828 : t1825 = true
    · replace H := if_yes c1828 H
      have c1828b0 : t1825 = true := c1828
      have c1828b1 : (!t1825) = false := by rw [c1828b0]; rfl
      try rw [c1828b1]
      clear c1828
      exact (none_no H).elim
    · replace H := if_no c1828 H
      have c1828b0 : t1825 = false := by simpa using c1828
      have c1828b1 : (!t1825) = true := by rw [c1828b0]; rfl
      try rw [c1828b1]
      clear c1828
      replace HS : Aside0 (Sep (fps []) w [] w1827) := ⟨HS.out.sub (.cons _ (.cons _ .slnil))⟩
      go_wp2_with fail
      go_ret
      rw [← some_eq H]
      exact ⟨(by first | rfl | (simp [IntKind.wrap_u32]; done)), HS.out⟩
  · have H := sum_r H
    refine (quitrentlaw12_Opened.calls _ 30 16 1 1 (.inr t1826) _ ⟨HGl0.out.pass (l := []) HS.out⟩ ⟨Sep.start _⟩ HA1824).mono ?_
    rintro e_ w1831 ⟨g1840, g1841, rfl, g1842, g1843, A1844, m1845, n1846, A1848, m1849, n1850, A1852, m1853, n1854, A1856, m1857, n1858, hS⟩
    replace HS : Aside0 (Sep (fps []) w [b8 g1840 g1842 t1826.2.1 t1826.2.2.1 t1826.2.2.2.1 t1826.2.2.2.2.1, b16 g1841 g1843 0 0 0 0 0 0 0 0 0 A1844 m1845 n1846 A1848 m1849 n1850 0, b7 g1842 A1852 m1853 n1854 t1826.2.2.2.2.2.1, b13 g1843 t1826.2.2.2.2.2.2.1 t1826.2.2.2.2.2.2.2.1 A1856 m1857 n1858, r12 A1844 m1845 n1846 t1826.2.2.2.2.2.2.2.2.1, r12 A1848 m1849 n1850 t1826.2.2.2.2.2.2.2.2.2.1, r6 A1852 m1853 n1854 t1826.2.2.2.2.2.2.2.2.2.2.1, r12 A1856 m1857 n1858 t1826.2.2.2.2.2.2.2.2.2.2.2, b1 g7 a1 a2, b1 g10 a3 a4] w1831) := ⟨HS.out.call hS⟩
    clear hS
    obtain rfl := (row_len (HS.out.at4)).symm
    obtain rfl := (row_len (HS.out.at5)).symm
    obtain rfl := (row_len (HS.out.at6)).symm
    obtain rfl := (row_len (HS.out.at7)).symm
    by_cases c1860 : t1826.1 = true
    · replace H := if_yes c1860 H
      have c1860b0 : t1826.1 = true := c1860
      have c1860b1 : (!t1826.1) = false := by rw [c1860b0]; rfl
      try rw [c1860b1]
      clear c1860
      replace HS : Aside0 (Sep (fps []) w [b8 g1840 g1842 t1826.2.1 t1826.2.2.1 t1826.2.2.2.1 t1826.2.2.2.2.1, b7 g1842 A1852 ((t1826.2.2.2.2.2.2.2.2.2.2.1).length) n1854 t1826.2.2.2.2.2.1, r6 A1852 ((t1826.2.2.2.2.2.2.2.2.2.2.1).length) n1854 t1826.2.2.2.2.2.2.2.2.2.2.1, b1 g7 a1 a2, b1 g10 a3 a4] w1831) := ⟨HS.out.sub (.cons_cons _ (.cons _ (.cons_cons _ (.cons _ (.cons _ (.cons _ (.cons_cons _ (.cons _ (.cons_cons _ (.cons_cons _ .slnil))))))))))⟩
      have hc1861 : w1831.cell? ⟨g7, 0, none⟩ = some (.int .i64 a1) := blk_cellv (HS.out.at3) 0 rfl
      have hc1862 : w1831.cell? ⟨g7, 1, none⟩ = some (.int .i64 a2) := blk_cellv (HS.out.at3) 1 rfl
      go_wp2_with fail
      clear hc1861 hc1862
      obtain ⟨t2786, HA2787, H⟩ := bind_some H
      refine (obj_Make.calls _ t1826.2.2.2.2.2.2.2.2.2.2.1 t1826.2.2.2.2.2.1 t1826.2.1 t1826.2.2.1 t1826.2.2.2.1 t1826.2.2.2.2.1 a1 a2 g1840 g1842 A1852 ((t1826.2.2.2.2.2.2.2.2.2.2.1).length) n1854 t2786 _ ⟨HGl0.out.pass HS.out⟩ ⟨HS.out.begin⟩ HA2787).mono ?_
      rintro e_ w2788 ⟨rfl, hS⟩
      replace HS : Aside0 (Sep (fps []) w [b8 g1840 g1842 t1826.2.1 t1826.2.2.1 t1826.2.2.2.1 t1826.2.2.2.2.1, b7 g1842 A1852 ((t1826.2.2.2.2.2.2.2.2.2.2.1).length) n1854 t2786.2.2.1, r6 A1852 ((t1826.2.2.2.2.2.2.2.2.2.2.1).length) n1854 t2786.2.2.2, b1 g7 a1 a2, b1 g10 a3 a4] w2788) := ⟨HS.out.call hS⟩
      clear hS
      replace HS : Aside0 (Sep (fps []) w [b8 g1840 g1842 t1826.2.1 t1826.2.2.1 t1826.2.2.2.1 t1826.2.2.2.2.1, b7 g1842 A1852 ((t1826.2.2.2.2.2.2.2.2.2.2.1).length) n1854 t2786.2.2.1, r6 A1852 ((t1826.2.2.2.2.2.2.2.2.2.2.1).length) n1854 t2786.2.2.2, b1 g10 a3 a4] w2788) := ⟨HS.out.sub (.cons_cons _ (.cons_cons _ (.cons_cons _ (.cons _ (.cons_cons _ .slnil)))))⟩
      have hc2789 : w2788.cell? ⟨g10, 0, none⟩ = some (.int .i64 a3) := blk_cellv (HS.out.at3) 0 rfl
      have hc2790 : w2788.cell? ⟨g10, 1, none⟩ = some (.int .i64 a4) := blk_cellv (HS.out.at3) 1 rfl
      go_wp2_with fail
      clear hc2789 hc2790
      obtain ⟨t2791, HA2792, H⟩ := bind_some H
      refine (obj_Make.calls _ t2786.2.2.2 t2786.2.2.1 t1826.2.1 t1826.2.2.1 t1826.2.2.2.1 t1826.2.2.2.2.1 a3 a4 g1840 g1842 A1852 ((t1826.2.2.2.2.2.2.2.2.2.2.1).length) n1854 t2791 _ ⟨HGl0.out.pass HS.out⟩ ⟨HS.out.begin⟩ HA2792).mono ?_
      rintro e_ w2793 ⟨rfl, hS⟩
      replace HS : Aside0 (Sep (fps []) w [b8 g1840 g1842 t1826.2.1 t1826.2.2.1 t1826.2.2.2.1 t1826.2.2.2.2.1, b7 g1842 A1852 ((t1826.2.2.2.2.2.2.2.2.2.2.1).length) n1854 t2791.2.2.1, r6 A1852 ((t1826.2.2.2.2.2.2.2.2.2.2.1).length) n1854 t2791.2.2.2, b1 g10 a3 a4] w2793) := ⟨HS.out.call hS⟩
      clear hS
      by_cases c2794 : t2786.2.1 = 0
      · replace H := if_yes c2794 H
        have c2794b0 : (t2786.2.1 == 0) = true := beq_iff_eq.mpr c2794
        have c2794b1 : (t2786.2.1 != 0) = false := bne_eq_false_iff_eq.mpr c2794
        clear c2794
        by_cases c2795 : t2791.2.1 = 0
        · replace H := if_yes c2795 H
          have c2795b0 : (t2791.2.1 == 0) = true := beq_iff_eq.mpr c2795
          have c2795b1 : (t2791.2.1 != 0) = false := bne_eq_false_iff_eq.mpr c2795
          clear c2795
          replace HS : Aside0 (Sep (fps []) w [b8 g1840 g1842 t1826.2.1 t1826.2.2.1 t1826.2.2.2.1 t1826.2.2.2.2.1, b7 g1842 A1852 ((t1826.2.2.2.2.2.2.2.2.2.2.1).length) n1854 t2791.2.2.1, r6 A1852 ((t1826.2.2.2.2.2.2.2.2.2.2.1).length) n1854 t2791.2.2.2] w2793) := ⟨HS.out.sub (.cons_cons _ (.cons_cons _ (.cons_cons _ (.cons _ .slnil))))⟩
          go_wp2_with fail
          obtain ⟨t3346, HA3347, H⟩ := bind_some H
          refine (obj_See.calls _ t2791.2.2.2 t2791.2.2.1 t1826.2.1 t1826.2.2.1 t1826.2.2.2.1 t1826.2.2.2.2.1 t2786.1 g1840 g1842 A1852 ((t1826.2.2.2.2.2.2.2.2.2.2.1).length) n1854 t3346 _ ⟨HGl0.out.pass HS.out⟩ ⟨HS.out.begin⟩ HA3347).mono ?_
          rintro e_ w3348 ⟨A3351, m3352, n3353, A3355, m3356, n3357, rfl, hS⟩
          replace HS : Aside0 (Sep (fps []) w [b8 g1840 g1842 t1826.2.1 t1826.2.2.1 t1826.2.2.2.1 t1826.2.2.2.2.1, b7 g1842 A1852 ((t1826.2.2.2.2.2.2.2.2.2.2.1).length) n1854 t2791.2.2.1, r6 A1852 ((t1826.2.2.2.2.2.2.2.2.2.2.1).length) n1854 t2791.2.2.2, r12 A3351 m3352 n3353 t3346.2.1, r6 A3355 m3356 n3357 t3346.2.2] w3348) := ⟨HS.out.call hS⟩
          clear hS
          obtain rfl := (row_len (HS.out.at3)).symm
          obtain rfl := (row_len (HS.out.at4)).symm
          go_wp2_with (first | ((with_reducible refine gate_dst (N := 16) rfl ?_); refine box_on ?hg (N := 16) ?hd (cs := #[.slice none 0 0, .slice none 0 0]) (t := 71) ?hr ?_; (case hd => rfl); (case hg => rfl); (case hr => first | (go_simp; done) | (go_simp; rfl)); intro g3359 hg w3360 hbox hb; replace HS : Aside0 (Sep (fps []) w [b8 g1840 g1842 t1826.2.1 t1826.2.2.1 t1826.2.2.2.1 t1826.2.2.2.2.1, b7 g1842 A1852 ((t1826.2.2.2.2.2.2.2.2.2.2.1).length) n1854 t2791.2.2.1, r6 A1852 ((t1826.2.2.2.2.2.2.2.2.2.2.1).length) n1854 t2791.2.2.2, r12 A3351 ((t3346.2.1).length) n3353 t3346.2.1, r6 A3355 ((t3346.2.2).length) n3357 t3346.2.2, b22 g3359] w3360) := ⟨HS.out.box hg hbox hb⟩; clear hg hbox hb; replace HS : Aside0 (Sep (fps []) w [r12 none 0 0 [], b8 g1840 g1842 t1826.2.1 t1826.2.2.1 t1826.2.2.2.1 t1826.2.2.2.2.1, b7 g1842 A1852 ((t1826.2.2.2.2.2.2.2.2.2.2.1).length) n1854 t2791.2.2.1, r6 A1852 ((t1826.2.2.2.2.2.2.2.2.2.2.1).length) n1854 t2791.2.2.2, r12 A3351 ((t3346.2.1).length) n3353 t3346.2.1, r6 A3355 ((t3346.2.2).length) n3357 t3346.2.2, b23 g3359 none 0 0] w3360) := ⟨HS.out.nilrow 3 (Value.int .i64)⟩; replace HS : Aside0 (Sep (fps []) w [r6 none 0 0 [], r12 none 0 0 [], b8 g1840 g1842 t1826.2.1 t1826.2.2.1 t1826.2.2.2.1 t1826.2.2.2.2.1, b7 g1842 A1852 ((t1826.2.2.2.2.2.2.2.2.2.2.1).length) n1854 t2791.2.2.1, r6 A1852 ((t1826.2.2.2.2.2.2.2.2.2.2.1).length) n1854 t2791.2.2.2, r12 A3351 ((t3346.2.1).length) n3353 t3346.2.1, r6 A3355 ((t3346.2.2).length) n3357 t3346.2.2, b24 g3359 none 0 0 none 0 0] w3360) := ⟨HS.out.nilrow 33 (Value.int .u32)⟩; have hc3366 : w3360.cell? ⟨g3359, 0, none⟩ = some (.slice none 0 0) := blk_cellv (HS.out.at7) 0 rfl; have hz3367 : w3360.frozen? ⟨g3359, 0, none⟩ = false := blk_fz (HS.out.at7) 0; have hc3368 : w3360.cell? ⟨g3359, 1, none⟩ = some (.slice none 0 0) := blk_cellv (HS.out.at7) 1 rfl; have hz3369 : w3360.frozen? ⟨g3359, 1, none⟩ = false := blk_fz (HS.out.at7) 1) | ((with_reducible refine gate_store (t := 71) (p := 16) rfl ?_); refine store_event (w1 := (World.setCell (World.setCell w3360 ⟨g3359, 0, none⟩ (.slice A3351 ((t3346.2.1).length) n3353)) ⟨g3359, 1, none⟩ (.slice A3355 ((t3346.2.2).length) n3357))) rfl (t := 71) (p := 16) rfl rfl ?hr ?_; (case hr => first | (go_simp; done) | (go_simp; rfl)); intro w3370 hst; clear hc3366 hz3367 hc3368 hz3369; have hq0 : Sep (fps []) w [r6 none 0 0 [], r12 none 0 0 [], b8 g1840 g1842 t1826.2.1 t1826.2.2.1 t1826.2.2.2.1 t1826.2.2.2.2.1, b7 g1842 A1852 ((t1826.2.2.2.2.2.2.2.2.2.2.1).length) n1854 t2791.2.2.1, r6 A1852 ((t1826.2.2.2.2.2.2.2.2.2.2.1).length) n1854 t2791.2.2.2, r12 A3351 ((t3346.2.1).length) n3353 t3346.2.1, r6 A3355 ((t3346.2.2).length) n3357 t3346.2.2, b24 g3359 A3351 ((t3346.2.1).length) n3353 none 0 0] (World.setCell w3360 ⟨g3359, 0, none⟩ (.slice A3351 ((t3346.2.1).length) n3353)) := (HS.out).set1 (l1 := [r6 none 0 0 [], r12 none 0 0 [], b8 g1840 g1842 t1826.2.1 t1826.2.2.1 t1826.2.2.2.1 t1826.2.2.2.2.1, b7 g1842 A1852 ((t1826.2.2.2.2.2.2.2.2.2.2.1).length) n1854 t2791.2.2.1, r6 A1852 ((t1826.2.2.2.2.2.2.2.2.2.2.1).length) n1854 t2791.2.2.2, r12 A3351 ((t3346.2.1).length) n3353 t3346.2.1, r6 A3355 ((t3346.2.2).length) n3357 t3346.2.2]) (l2 := []) 0 (.slice A3351 ((t3346.2.1).length) n3353); have hq1 : Sep (fps []) w [r6 none 0 0 [], r12 none 0 0 [], b8 g1840 g1842 t1826.2.1 t1826.2.2.1 t1826.2.2.2.1 t1826.2.2.2.2.1, b7 g1842 A1852 ((t1826.2.2.2.2.2.2.2.2.2.2.1).length) n1854 t2791.2.2.1, r6 A1852 ((t1826.2.2.2.2.2.2.2.2.2.2.1).length) n1854 t2791.2.2.2, r12 A3351 ((t3346.2.1).length) n3353 t3346.2.1, r6 A3355 ((t3346.2.2).length) n3357 t3346.2.2, b24 g3359 A3351 ((t3346.2.1).length) n3353 A3355 ((t3346.2.2).length) n3357] (World.setCell (World.setCell w3360 ⟨g3359, 0, none⟩ (.slice A3351 ((t3346.2.1).length) n3353)) ⟨g3359, 1, none⟩ (.slice A3355 ((t3346.2.2).length) n3357)) := (hq0).set1 (l1 := [r6 none 0 0 [], r12 none 0 0 [], b8 g1840 g1842 t1826.2.1 t1826.2.2.1 t1826.2.2.2.1 t1826.2.2.2.2.1, b7 g1842 A1852 ((t1826.2.2.2.2.2.2.2.2.2.2.1).length) n1854 t2791.2.2.1, r6 A1852 ((t1826.2.2.2.2.2.2.2.2.2.2.1).length) n1854 t2791.2.2.2, r12 A3351 ((t3346.2.1).length) n3353 t3346.2.1, r6 A3355 ((t3346.2.2).length) n3357 t3346.2.2]) (l2 := []) 1 (.slice A3355 ((t3346.2.2).length) n3357); replace HS : Aside0 (Sep (fps []) w [r6 none 0 0 [], r12 none 0 0 [], b8 g1840 g1842 t1826.2.1 t1826.2.2.1 t1826.2.2.2.1 t1826.2.2.2.2.1, b7 g1842 A1852 ((t1826.2.2.2.2.2.2.2.2.2.2.1).length) n1854 t2791.2.2.1, r6 A1852 ((t1826.2.2.2.2.2.2.2.2.2.2.1).length) n1854 t2791.2.2.2, r12 A3351 ((t3346.2.1).length) n3353 t3346.2.1, r6 A3355 ((t3346.2.2).length) n3357 t3346.2.2, b24 g3359 A3351 ((t3346.2.1).length) n3353 A3355 ((t3346.2.2).length) n3357] w3370) := ⟨by rw [hst]; exact hq1⟩; clear hq0 hq1; clear hst; replace HS : Aside0 (Sep (fps []) w [b8 g1840 g1842 t1826.2.1 t1826.2.2.1 t1826.2.2.2.1 t1826.2.2.2.2.1, b7 g1842 A1852 ((t1826.2.2.2.2.2.2.2.2.2.2.1).length) n1854 t2791.2.2.1, r6 A1852 ((t1826.2.2.2.2.2.2.2.2.2.2.1).length) n1854 t2791.2.2.2, r12 A3351 ((t3346.2.1).length) n3353 t3346.2.1, r6 A3355 ((t3346.2.2).length) n3357 t3346.2.2, b24 g3359 A3351 ((t3346.2.1).length) n3353 A3355 ((t3346.2.2).length) n3357] w3370) := ⟨HS.out.sub (.cons _ (.cons _ (.cons_cons _ (.cons_cons _ (.cons_cons _ (.cons_cons _ (.cons_cons _ (.cons_cons _ .slnil))))))))⟩))
          obtain ⟨o3495, AL3496, H⟩ := bind_some H
          go_loopg [63] k (fun kq v63 wc => ∃ (x3499 : Int) (x3500 : List Int) (x3501 : Int), v63 = .int .u8 x3499 ∧ Aside0 (quitrentlaw12_CountAlone.lo0 kq a5 t1826 t2786 x3499 x3500 x3501 = some o3495) ∧ Aside0 (Sep (fps []) w [b8 g1840 g1842 t1826.2.1 t1826.2.2.1 t1826.2.2.2.1 t1826.2.2.2.2.1, b7 g1842 A1852 ((t1826.2.2.2.2.2.2.2.2.2.2.1).length) n1854 x3501, r6 A1852 ((t1826.2.2.2.2.2.2.2.2.2.2.1).length) n1854 x3500, r12 A3351 ((t3346.2.1).length) n3353 t3346.2.1, r6 A3355 ((t3346.2.2).length) n3357 t3346.2.2, b24 g3359 A3351 ((t3346.2.1).length) n3353 A3355 ((t3346.2.2).length) n3357] wc))
          case atStart => exact ⟨(0), (t2791.2.2.2), (t2791.2.2.1), (by first | rfl | (simp [IntKind.wrap_u32]; done)), AL3496, ⟨HS.out⟩⟩
          case round =>
            clear AL3496 HS
            obtain ⟨x3499, x3500, x3501, rfl, AL3496, HS⟩ := hrel
            obtain ⟨w3497, rfl⟩ : ∃ x : World, x = wr := ⟨_, rfl⟩
            cases gk with
            | zero => exact absurd AL3496.out (by simp [quitrentlaw12_CountAlone.lo0])
            | succ k3498 =>
              have AL0 := AL3496.out
              rw [quitrentlaw12_CountAlone.lo0] at AL0
              clear AL3496
              have AL3496 := Aside0.mk AL0
              clear AL0
              by_cases c3502 : x3499 < a5
              · replace AL3496 := if_yes c3502 AL3496
                have c3502b0 : decide (x3499 < a5) = true := decide_eq_true c3502
                clear c3502
                go_wp2_with fail
                obtain ⟨t3492, HA3503, AL3496⟩ := bind_some AL3496
                refine (count_Up.calls x3500 x3501 t1826.2.1 t1826.2.2.1 t1826.2.2.2.1 t1826.2.2.2.2.1 t2786.1 g1840 g1842 A1852 ((t1826.2.2.2.2.2.2.2.2.2.2.1).length) n1854 t3492 _ ⟨HGl0.out.pass HS.out⟩ ⟨HS.out.begin⟩ HA3503).mono ?_
                rintro e_ w3504 ⟨rfl, hS⟩
                replace HS : Aside0 (Sep (fps []) w [b8 g1840 g1842 t1826.2.1 t1826.2.2.1 t1826.2.2.2.1 t1826.2.2.2.2.1, b7 g1842 A1852 ((t1826.2.2.2.2.2.2.2.2.2.2.1).length) n1854 t3492.2.2.1, r6 A1852 ((t1826.2.2.2.2.2.2.2.2.2.2.1).length) n1854 t3492.2.2.2, r12 A3351 ((t3346.2.1).length) n3353 t3346.2.1, r6 A3355 ((t3346.2.2).length) n3357 t3346.2.2, b24 g3359 A3351 ((t3346.2.1).length) n3353 A3355 ((t3346.2.2).length) n3357] w3504) := ⟨HS.out.call hS⟩
                clear hS
                go_wp2_with fail
                go_roundg k3498
                case measure => exact Nat.lt_succ_self _
                case rel => exact ⟨((x3499 + 1) % 256), (t3492.2.2.2), (t3492.2.2.1), (by first | rfl | (simp [IntKind.wrap_u32]; done)), Aside0.mk AL3496.out, ⟨HS.out⟩⟩
              · replace AL3496 := if_no c3502 AL3496
                have c3502b0 : decide (x3499 < a5) = false := decide_eq_false c3502
                clear c3502
                have ho := some_eq AL3496
                subst ho
                clear AL3496
                go_wp2_with fail
                obtain ⟨o3539, AL3540, H⟩ := bind_some H
                go_loopg [18, 70] k (fun kq v18 v70 wc => ∃ (x3543 : Int) (x3544 : Int) (x3545 : List Int) (x3546 : Int), v18 = .int .i64 x3543 ∧ v70 = .int .u8 x3544 ∧ Aside0 (quitrentlaw12_CountAlone.lo1 kq a6 t1826 t2786 x3543 x3544 x3545 x3546 = some o3539) ∧ Aside0 (Sep (fps []) w [b8 g1840 g1842 t1826.2.1 t1826.2.2.1 t1826.2.2.2.1 t1826.2.2.2.2.1, b7 g1842 A1852 ((t1826.2.2.2.2.2.2.2.2.2.2.1).length) n1854 x3546, r6 A1852 ((t1826.2.2.2.2.2.2.2.2.2.2.1).length) n1854 x3545, r12 A3351 ((t3346.2.1).length) n3353 t3346.2.1, r6 A3355 ((t3346.2.2).length) n3357 t3346.2.2, b24 g3359 A3351 ((t3346.2.1).length) n3353 A3355 ((t3346.2.2).length) n3357] wc))
                case atStart => exact ⟨(0), (0), (x3500), (x3501), (by first | rfl | (simp [IntKind.wrap_u32]; done)), (by first | rfl | (simp [IntKind.wrap_u32]; done)), AL3540, ⟨HS.out⟩⟩
                case round =>
                  clear AL3540 HS
                  obtain ⟨x3543, x3544, x3545, x3546, rfl, rfl, AL3540, HS⟩ := hrel
                  obtain ⟨w3541, rfl⟩ : ∃ x : World, x = wr := ⟨_, rfl⟩
                  cases gk with
                  | zero => exact absurd AL3540.out (by simp [quitrentlaw12_CountAlone.lo1])
                  | succ k3542 =>
                    have AL0 := AL3540.out
                    rw [quitrentlaw12_CountAlone.lo1] at AL0
                    clear AL3540
                    have AL3540 := Aside0.mk AL0
                    clear AL0
                    by_cases c3547 : x3544 < a6
                    · replace AL3540 := if_yes c3547 AL3540
                      have c3547b0 : decide (x3544 < a6) = true := decide_eq_true c3547
                      clear c3547
                      go_wp2_with fail
                      obtain ⟨t3535, HA3548, AL3540⟩ := bind_some AL3540
                      refine (count_Down.calls x3545 x3546 t1826.2.1 t1826.2.2.1 t1826.2.2.2.1 t1826.2.2.2.2.1 t2786.1 g1840 g1842 A1852 ((t1826.2.2.2.2.2.2.2.2.2.2.1).length) n1854 t3535 _ ⟨HGl0.out.pass HS.out⟩ ⟨HS.out.begin⟩ HA3548).mono ?_
                      rintro e_ w3549 ⟨rfl, hS⟩
                      replace HS : Aside0 (Sep (fps []) w [b8 g1840 g1842 t1826.2.1 t1826.2.2.1 t1826.2.2.2.1 t1826.2.2.2.2.1, b7 g1842 A1852 ((t1826.2.2.2.2.2.2.2.2.2.2.1).length) n1854 t3535.2.2.1, r6 A1852 ((t1826.2.2.2.2.2.2.2.2.2.2.1).length) n1854 t3535.2.2.2, r12 A3351 ((t3346.2.1).length) n3353 t3346.2.1, r6 A3355 ((t3346.2.2).length) n3357 t3346.2.2, b24 g3359 A3351 ((t3346.2.1).length) n3353 A3355 ((t3346.2.2).length) n3357] w3549) := ⟨HS.out.call hS⟩
                      clear hS
                      by_cases c3550 : t3535.2.1 = true
                      · replace AL3540 := if_yes c3550 AL3540
                        have c3550b0 : t3535.2.1 = true := c3550
                        have c3550b1 : (!t3535.2.1) = false := by rw [c3550b0]; rfl
                        clear c3550
                        go_wp2_with fail
                        go_roundg k3542
                        case measure => exact Nat.lt_succ_self _
                        case rel => exact ⟨(wrap64 (x3543 + 1)), ((x3544 + 1) % 256), (t3535.2.2.2), (t3535.2.2.1), (by first | rfl | (simp [IntKind.wrap_u32]; done)), (by first | rfl | (simp [IntKind.wrap_u32]; done)), Aside0.mk AL3540.out, ⟨HS.out⟩⟩
                      · replace AL3540 := if_no c3550 AL3540
                        have c3550b0 : t3535.2.1 = false := by simpa using c3550
                        have c3550b1 : (!t3535.2.1) = true := by rw [c3550b0]; rfl
                        clear c3550
                        go_wp2_with fail
                        go_roundg k3542
                        case measure => exact Nat.lt_succ_self _
                        case rel => exact ⟨(x3543), ((x3544 + 1) % 256), (t3535.2.2.2), (t3535.2.2.1), (by first | rfl | (simp [IntKind.wrap_u32]; done)), (by first | rfl | (simp [IntKind.wrap_u32]; done)), Aside0.mk AL3540.out, ⟨HS.out⟩⟩
                    · replace AL3540 := if_no c3547 AL3540
                      have c3547b0 : decide (x3544 < a6) = false := decide_eq_false c3547
                      clear c3547
                      have ho := some_eq AL3540
                      subst ho
                      clear AL3540
                      go_wp2_with fail
                      obtain ⟨t3551, HA3552, H⟩ := bind_some H
                      refine (obj_See.calls _ x3545 x3546 t1826.2.1 t1826.2.2.1 t1826.2.2.2.1 t1826.2.2.2.2.1 t2786.1 g1840 g1842 A1852 ((t1826.2.2.2.2.2.2.2.2.2.2.1).length) n1854 t3551 _ ⟨HGl0.out.pass HS.out⟩ ⟨HS.out.begin⟩ HA3552).mono ?_
                      rintro e_ w3553 ⟨A3556, m3557, n3558, A3560, m3561, n3562, rfl, hS⟩
                      replace HS : Aside0 (Sep (fps []) w [b8 g1840 g1842 t1826.2.1 t1826.2.2.1 t1826.2.2.2.1 t1826.2.2.2.2.1, b7 g1842 A1852 ((t1826.2.2.2.2.2.2.2.2.2.2.1).length) n1854 x3546, r6 A1852 ((t1826.2.2.2.2.2.2.2.2.2.2.1).length) n1854 x3545, r12 A3556 m3557 n3558 t3551.2.1, r6 A3560 m3561 n3562 t3551.2.2, r12 A3351 ((t3346.2.1).length) n3353 t3346.2.1, r6 A3355 ((t3346.2.2).length) n3357 t3346.2.2, b24 g3359 A3351 ((t3346.2.1).length) n3353 A3355 ((t3346.2.2).length) n3357] w3553) := ⟨HS.out.call hS⟩
                      clear hS
                      obtain rfl := (row_len (HS.out.at3)).symm
                      obtain rfl := (row_len (HS.out.at4)).symm
                      go_wp2_with (first | ((with_reducible refine gate_dst (N := 21) rfl ?_); refine box_on ?hg (N := 21) ?hd (cs := #[.slice none 0 0, .slice none 0 0]) (t := 71) ?hr ?_; (case hd => rfl); (case hg => rfl); (case hr => first | (go_simp; done) | (go_simp; rfl)); intro g3564 hg w3565 hbox hb; replace HS : Aside0 (Sep (fps []) w [b8 g1840 g1842 t1826.2.1 t1826.2.2.1 t1826.2.2.2.1 t1826.2.2.2.2.1, b7 g1842 A1852 ((t1826.2.2.2.2.2.2.2.2.2.2.1).length) n1854 x3546, r6 A1852 ((t1826.2.2.2.2.2.2.2.2.2.2.1).length) n1854 x3545, r12 A3556 ((t3551.2.1).length) n3558 t3551.2.1, r6 A3560 ((t3551.2.2).length) n3562 t3551.2.2, r12 A3351 ((t3346.2.1).length) n3353 t3346.2.1, r6 A3355 ((t3346.2.2).length) n3357 t3346.2.2, b24 g3359 A3351 ((t3346.2.1).length) n3353 A3355 ((t3346.2.2).length) n3357, b22 g3564] w3565) := ⟨HS.out.box hg hbox hb⟩; clear hg hbox hb; replace HS : Aside0 (Sep (fps []) w [r12 none 0 0 [], b8 g1840 g1842 t1826.2.1 t1826.2.2.1 t1826.2.2.2.1 t1826.2.2.2.2.1, b7 g1842 A1852 ((t1826.2.2.2.2.2.2.2.2.2.2.1).length) n1854 x3546, r6 A1852 ((t1826.2.2.2.2.2.2.2.2.2.2.1).length) n1854 x3545, r12 A3556 ((t3551.2.1).length) n3558 t3551.2.1, r6 A3560 ((t3551.2.2).length) n3562 t3551.2.2, r12 A3351 ((t3346.2.1).length) n3353 t3346.2.1, r6 A3355 ((t3346.2.2).length) n3357 t3346.2.2, b24 g3359 A3351 ((t3346.2.1).length) n3353 A3355 ((t3346.2.2).length) n3357, b23 g3564 none 0 0] w3565) := ⟨HS.out.nilrow 3 (Value.int .i64)⟩; replace HS : Aside0 (Sep (fps []) w [r6 none 0 0 [], r12 none 0 0 [], b8 g1840 g1842 t1826.2.1 t1826.2.2.1 t1826.2.2.2.1 t1826.2.2.2.2.1, b7 g1842 A1852 ((t1826.2.2.2.2.2.2.2.2.2.2.1).length) n1854 x3546, r6 A1852 ((t1826.2.2.2.2.2.2.2.2.2.2.1).length) n1854 x3545, r12 A3556 ((t3551.2.1).length) n3558 t3551.2.1, r6 A3560 ((t3551.2.2).length) n3562 t3551.2.2, r12 A3351 ((t3346.2.1).length) n3353 t3346.2.1, r6 A3355 ((t3346.2.2).length) n3357 t3346.2.2, b24 g3359 A3351 ((t3346.2.1).length) n3353 A3355 ((t3346.2.2).length) n3357, b24 g3564 none 0 0 none 0 0] w3565) := ⟨HS.out.nilrow 33 (Value.int .u32)⟩; have hc3571 : w3565.cell? ⟨g3564, 0, none⟩ = some (.slice none 0 0) := blk_cellv (HS.out.nth 10 rfl) 0 rfl; have hz3572 : w3565.frozen? ⟨g3564, 0, none⟩ = false := blk_fz (HS.out.nth 10 rfl) 0; have hc3573 : w3565.cell? ⟨g3564, 1, none⟩ = some (.slice none 0 0) := blk_cellv (HS.out.nth 10 rfl) 1 rfl; have hz3574 : w3565.frozen? ⟨g3564, 1, none⟩ = false := blk_fz (HS.out.nth 10 rfl) 1) | ((with_reducible refine gate_store (t := 71) (p := 21) rfl ?_); refine store_event (w1 := (World.setCell (World.setCell w3565 ⟨g3564, 0, none⟩ (.slice A3556 ((t3551.2.1).length) n3558)) ⟨g3564, 1, none⟩ (.slice A3560 ((t3551.2.2).length) n3562))) rfl (t := 71) (p := 21) rfl rfl ?hr ?_; (case hr => first | (go_simp; done) | (go_simp; rfl)); intro w3575 hst; clear hc3571 hz3572 hc3573 hz3574; have hq0 : Sep (fps []) w [r6 none 0 0 [], r12 none 0 0 [], b8 g1840 g1842 t1826.2.1 t1826.2.2.1 t1826.2.2.2.1 t1826.2.2.2.2.1, b7 g1842 A1852 ((t1826.2.2.2.2.2.2.2.2.2.2.1).length) n1854 x3546, r6 A1852 ((t1826.2.2.2.2.2.2.2.2.2.2.1).length) n1854 x3545, r12 A3556 ((t3551.2.1).length) n3558 t3551.2.1, r6 A3560 ((t3551.2.2).length) n3562 t3551.2.2, r12 A3351 ((t3346.2.1).length) n3353 t3346.2.1, r6 A3355 ((t3346.2.2).length) n3357 t3346.2.2, b24 g3359 A3351 ((t3346.2.1).length) n3353 A3355 ((t3346.2.2).length) n3357, b24 g3564 A3556 ((t3551.2.1).length) n3558 none 0 0] (World.setCell w3565 ⟨g3564, 0, none⟩ (.slice A3556 ((t3551.2.1).length) n3558)) := (HS.out).set1 (l1 := [r6 none 0 0 [], r12 none 0 0 [], b8 g1840 g1842 t1826.2.1 t1826.2.2.1 t1826.2.2.2.1 t1826.2.2.2.2.1, b7 g1842 A1852 ((t1826.2.2.2.2.2.2.2.2.2.2.1).length) n1854 x3546, r6 A1852 ((t1826.2.2.2.2.2.2.2.2.2.2.1).length) n1854 x3545, r12 A3556 ((t3551.2.1).length) n3558 t3551.2.1, r6 A3560 ((t3551.2.2).length) n3562 t3551.2.2, r12 A3351 ((t3346.2.1).length) n3353 t3346.2.1, r6 A3355 ((t3346.2.2).length) n3357 t3346.2.2, b24 g3359 A3351 ((t3346.2.1).length) n3353 A3355 ((t3346.2.2).length) n3357]) (l2 := []) 0 (.slice A3556 ((t3551.2.1).length) n3558); have hq1 : Sep (fps []) w [r6 none 0 0 [], r12 none 0 0 [], b8 g1840 g1842 t1826.2.1 t1826.2.2.1 t1826.2.2.2.1 t1826.2.2.2.2.1, b7 g1842 A1852 ((t1826.2.2.2.2.2.2.2.2.2.2.1).length) n1854 x3546, r6 A1852 ((t1826.2.2.2.2.2.2.2.2.2.2.1).length) n1854 x3545, r12 A3556 ((t3551.2.1).length) n3558 t3551.2.1, r6 A3560 ((t3551.2.2).length) n3562 t3551.2.2, r12 A3351 ((t3346.2.1).length) n3353 t3346.2.1, r6 A3355 ((t3346.2.2).length) n3357 t3346.2.2, b24 g3359 A3351 ((t3346.2.1).length) n3353 A3355 ((t3346.2.2).length) n3357, b24 g3564 A3556 ((t3551.2.1).length) n3558 A3560 ((t3551.2.2).length) n3562] (World.setCell (World.setCell w3565 ⟨g3564, 0, none⟩ (.slice A3556 ((t3551.2.1).length) n3558)) ⟨g3564, 1, none⟩ (.slice A3560 ((t3551.2.2).length) n3562)) := (hq0).set1 (l1 := [r6 none 0 0 [], r12 none 0 0 [], b8 g1840 g1842 t1826.2.1 t1826.2.2.1 t1826.2.2.2.1 t1826.2.2.2.2.1, b7 g1842 A1852 ((t1826.2.2.2.2.2.2.2.2.2.2.1).length) n1854 x3546, r6 A1852 ((t1826.2.2.2.2.2.2.2.2.2.2.1).length) n1854 x3545, r12 A3556 ((t3551.2.1).length) n3558 t3551.2.1, r6 A3560 ((t3551.2.2).length) n3562 t3551.2.2, r12 A3351 ((t3346.2.1).length) n3353 t3346.2.1, r6 A3355 ((t3346.2.2).length) n3357 t3346.2.2, b24 g3359 A3351 ((t3346.2.1).length) n3353 A3355 ((t3346.2.2).length) n3357]) (l2 := []) 1 (.slice A3560 ((t3551.2.2).length) n3562); replace HS : Aside0 (Sep (fps []) w [r6 none 0 0 [], r12 none 0 0 [], b8 g1840 g1842 t1826.2.1 t1826.2.2.1 t1826.2.2.2.1 t1826.2.2.2.2.1, b7 g1842 A1852 ((t1826.2.2.2.2.2.2.2.2.2.2.1).length) n1854 x3546, r6 A1852 ((t1826.2.2.2.2.2.2.2.2.2.2.1).length) n1854 x3545, r12 A3556 ((t3551.2.1).length) n3558 t3551.2.1, r6 A3560 ((t3551.2.2).length) n3562 t3551.2.2, r12 A3351 ((t3346.2.1).length) n3353 t3346.2.1, r6 A3355 ((t3346.2.2).length) n3357 t3346.2.2, b24 g3359 A3351 ((t3346.2.1).length) n3353 A3355 ((t3346.2.2).length) n3357, b24 g3564 A3556 ((t3551.2.1).length) n3558 A3560 ((t3551.2.2).length) n3562] w3575) := ⟨by rw [hst]; exact hq1⟩; clear hq0 hq1; clear hst; replace HS : Aside0 (Sep (fps []) w [b8 g1840 g1842 t1826.2.1 t1826.2.2.1 t1826.2.2.2.1 t1826.2.2.2.2.1, b7 g1842 A1852 ((t1826.2.2.2.2.2.2.2.2.2.2.1).length) n1854 x3546, r6 A1852 ((t1826.2.2.2.2.2.2.2.2.2.2.1).length) n1854 x3545, r12 A3556 ((t3551.2.1).length) n3558 t3551.2.1, r6 A3560 ((t3551.2.2).length) n3562 t3551.2.2, r12 A3351 ((t3346.2.1).length) n3353 t3346.2.1, r6 A3355 ((t3346.2.2).length) n3357 t3346.2.2, b24 g3359 A3351 ((t3346.2.1).length) n3353 A3355 ((t3346.2.2).length) n3357, b24 g3564 A3556 ((t3551.2.1).length) n3558 A3560 ((t3551.2.2).length) n3562] w3575) := ⟨HS.out.sub (.cons _ (.cons _ (.cons_cons _ (.cons_cons _ (.cons_cons _ (.cons_cons _ (.cons_cons _ (.cons_cons _ (.cons_cons _ (.cons_cons _ (.cons_cons _ .slnil)))))))))))⟩))
                      obtain ⟨t3638, HA3639, H⟩ := bind_some H
                      refine (quitrentlaw12_begun.calls _ t3638 _ ⟨HGl0.out.pass (l := []) HS.out⟩ ⟨Sep.start _⟩ HA3639).mono ?_
                      rintro e_ w3640 ⟨rfl, hS⟩
                      replace HS : Aside0 (Sep (fps []) w [b8 g1840 g1842 t1826.2.1 t1826.2.2.1 t1826.2.2.2.1 t1826.2.2.2.2.1, b7 g1842 A1852 ((t1826.2.2.2.2.2.2.2.2.2.2.1).length) n1854 x3546, r6 A1852 ((t1826.2.2.2.2.2.2.2.2.2.2.1).length) n1854 x3545, r12 A3556 ((t3551.2.1).length) n3558 t3551.2.1, r6 A3560 ((t3551.2.2).length) n3562 t3551.2.2, r12 A3351 ((t3346.2.1).length) n3353 t3346.2.1, r6 A3355 ((t3346.2.2).length) n3357 t3346.2.2, b24 g3359 A3351 ((t3346.2.1).length) n3353 A3355 ((t3346.2.2).length) n3357, b24 g3564 A3556 ((t3551.2.1).length) n3558 A3560 ((t3551.2.2).length) n3562] w3640) := ⟨HS.out.call hS⟩
                      clear hS
                      by_cases c3641 : t3638 = true
                      · replace H := if_yes c3641 H
                        have c3641b0 : t3638 = true := c3641
                        have c3641b1 : (!t3638) = false := by rw [c3641b0]; rfl
                        clear c3641
                        by_cases c3642 : a6 < a5
                        · replace H := if_yes c3642 H
                          have c3642b0 : decide (a6 < a5) = true := decide_eq_true c3642
                          by_cases c3643 : x3543 = (wrap64 (a6))
                          · replace H := if_yes c3643 H
                            have c3643b0 : (x3543 == (wrap64 (a6))) = true := beq_iff_eq.mpr c3643
                            have c3643b1 : (x3543 != (wrap64 (a6))) = false := bne_eq_false_iff_eq.mpr c3643
                            clear c3643
                            skip
                            go_wp2_with fail
                            clear c3642
                            obtain ⟨t3674, HA3675, H⟩ := bind_some H
                            refine (count_Of.calls x3545 x3546 t1826.2.1 t1826.2.2.1 t1826.2.2.2.1 t1826.2.2.2.2.1 t2786.1 g1840 g1842 A1852 ((t1826.2.2.2.2.2.2.2.2.2.2.1).length) n1854 t3674 _ ⟨HGl0.out.pass HS.out⟩ ⟨HS.out.begin⟩ HA3675).mono ?_
                            rintro e_ w3676 ⟨rfl, hS⟩
                            replace HS : Aside0 (Sep (fps []) w [b8 g1840 g1842 t1826.2.1 t1826.2.2.1 t1826.2.2.2.1 t1826.2.2.2.2.1, b7 g1842 A1852 ((t1826.2.2.2.2.2.2.2.2.2.2.1).length) n1854 t3674.2, r6 A1852 ((t1826.2.2.2.2.2.2.2.2.2.2.1).length) n1854 x3545, r12 A3556 ((t3551.2.1).length) n3558 t3551.2.1, r6 A3560 ((t3551.2.2).length) n3562 t3551.2.2, r12 A3351 ((t3346.2.1).length) n3353 t3346.2.1, r6 A3355 ((t3346.2.2).length) n3357 t3346.2.2, b24 g3359 A3351 ((t3346.2.1).length) n3353 A3355 ((t3346.2.2).length) n3357, b24 g3564 A3556 ((t3551.2.1).length) n3558 A3560 ((t3551.2.2).length) n3562] w3676) := ⟨HS.out.call hS⟩
                            clear hS
                            by_cases c3677 : t3674.1 = (wrap64 ((wrap64 (a5)) - x3543))
                            · replace H := if_yes c3677 H
                              have c3677b0 : (t3674.1 == (wrap64 ((wrap64 (a5)) - x3543))) = true := beq_iff_eq.mpr c3677
                              have c3677b1 : (t3674.1 != (wrap64 ((wrap64 (a5)) - x3543))) = false := bne_eq_false_iff_eq.mpr c3677
                              clear c3677
                              go_wp2_with fail
                              obtain ⟨t3678, HA3679, H⟩ := bind_some H
                              refine (count_Of.calls x3545 t3674.2 t1826.2.1 t1826.2.2.1 t1826.2.2.2.1 t1826.2.2.2.2.1 t2791.1 g1840 g1842 A1852 ((t1826.2.2.2.2.2.2.2.2.2.2.1).length) n1854 t3678 _ ⟨HGl0.out.pass HS.out⟩ ⟨HS.out.begin⟩ HA3679).mono ?_
                              rintro e_ w3680 ⟨rfl, hS⟩
                              replace HS : Aside0 (Sep (fps []) w [b8 g1840 g1842 t1826.2.1 t1826.2.2.1 t1826.2.2.2.1 t1826.2.2.2.2.1, b7 g1842 A1852 ((t1826.2.2.2.2.2.2.2.2.2.2.1).length) n1854 t3678.2, r6 A1852 ((t1826.2.2.2.2.2.2.2.2.2.2.1).length) n1854 x3545, r12 A3556 ((t3551.2.1).length) n3558 t3551.2.1, r6 A3560 ((t3551.2.2).length) n3562 t3551.2.2, r12 A3351 ((t3346.2.1).length) n3353 t3346.2.1, r6 A3355 ((t3346.2.2).length) n3357 t3346.2.2, b24 g3359 A3351 ((t3346.2.1).length) n3353 A3355 ((t3346.2.2).length) n3357, b24 g3564 A3556 ((t3551.2.1).length) n3558 A3560 ((t3551.2.2).length) n3562] w3680) := ⟨HS.out.call hS⟩
                              clear hS
                              by_cases c3681 : t3678.1 = 0
                              · replace H := if_yes c3681 H
                                have c3681b0 : (t3678.1 == 0) = true := beq_iff_eq.mpr c3681
                                have c3681b1 : (t3678.1 != 0) = false := bne_eq_false_iff_eq.mpr c3681
                                clear c3681
                                have hc3682 : w3680.cell? ⟨g3359, 0, none⟩ = some (.slice A3351 ((t3346.2.1).length) n3353) := blk_cellv (HS.out.at7) 0 rfl
                                have hc3683 : w3680.cell? ⟨g3564, 0, none⟩ = some (.slice A3556 ((t3551.2.1).length) n3558) := blk_cellv (HS.out.at8) 0 rfl
                                go_wp2_with fail
                                clear hc3682 hc3683
                                obtain ⟨t3723, HA3724, H⟩ := bind_some H
                                refine (quitrentref01_Ints.calls _ t3346.2.1 t3551.2.1 A3351 n3353 A3556 n3558 t3723 _ ⟨Rd.ownI (l := []) HS.out 5 rfl⟩ ⟨Rd.ownI (l := []) HS.out 3 rfl⟩ ⟨HGl0.out.pass (l := []) HS.out⟩ ⟨Sep.start _⟩ HA3724).mono ?_
                                rintro e_ w3725 ⟨rfl, hS⟩
                                replace HS : Aside0 (Sep (fps []) w [b8 g1840 g1842 t1826.2.1 t1826.2.2.1 t1826.2.2.2.1 t1826.2.2.2.2.1, b7 g1842 A1852 ((t1826.2.2.2.2.2.2.2.2.2.2.1).length) n1854 t3678.2, r6 A1852 ((t1826.2.2.2.2.2.2.2.2.2.2.1).length) n1854 x3545, r12 A3556 ((t3551.2.1).length) n3558 t3551.2.1, r6 A3560 ((t3551.2.2).length) n3562 t3551.2.2, r12 A3351 ((t3346.2.1).length) n3353 t3346.2.1, r6 A3355 ((t3346.2.2).length) n3357 t3346.2.2, b24 g3359 A3351 ((t3346.2.1).length) n3353 A3355 ((t3346.2.2).length) n3357, b24 g3564 A3556 ((t3551.2.1).length) n3558 A3560 ((t3551.2.2).length) n3562] w3725) := ⟨HS.out.call hS⟩
                                clear hS
                                by_cases c3726 : t3723 = true
                                · replace H := if_yes c3726 H
                                  have c3726b0 : t3723 = true := c3726
                                  have c3726b1 : (!t3723) = false := by rw [c3726b0]; rfl
                                  clear c3726
                                  have hc3727 : w3725.cell? ⟨g3359, 1, none⟩ = some (.slice A3355 ((t3346.2.2).length) n3357) := blk_cellv (HS.out.at7) 1 rfl
                                  have hc3728 : w3725.cell? ⟨g3564, 1, none⟩ = some (.slice A3560 ((t3551.2.2).length) n3562) := blk_cellv (HS.out.at8) 1 rfl
                                  go_wp2_with fail
                                  clear hc3727 hc3728
                                  obtain ⟨t3768, HA3769, H⟩ := bind_some H
                                  refine (quitrentref01_Same.calls _ t3346.2.2 t3551.2.2 A3355 n3357 A3560 n3562 t3768 _ ⟨Rd.ownI (l := []) HS.out 6 rfl⟩ ⟨Rd.ownI (l := []) HS.out 4 rfl⟩ ⟨HGl0.out.pass (l := []) HS.out⟩ ⟨Sep.start _⟩ HA3769).mono ?_
                                  rintro e_ w3770 ⟨rfl, hS⟩
                                  replace HS : Aside0 (Sep (fps []) w [b8 g1840 g1842 t1826.2.1 t1826.2.2.1 t1826.2.2.2.1 t1826.2.2.2.2.1, b7 g1842 A1852 ((t1826.2.2.2.2.2.2.2.2.2.2.1).length) n1854 t3678.2, r6 A1852 ((t1826.2.2.2.2.2.2.2.2.2.2.1).length) n1854 x3545, r12 A3556 ((t3551.2.1).length) n3558 t3551.2.1, r6 A3560 ((t3551.2.2).length) n3562 t3551.2.2, r12 A3351 ((t3346.2.1).length) n3353 t3346.2.1, r6 A3355 ((t3346.2.2).length) n3357 t3346.2.2, b24 g3359 A3351 ((t3346.2.1).length) n3353 A3355 ((t3346.2.2).length) n3357, b24 g3564 A3556 ((t3551.2.1).length) n3558 A3560 ((t3551.2.2).length) n3562] w3770) := ⟨HS.out.call hS⟩
                                  clear hS
                                  replace HS : Aside0 (Sep (fps []) w [] w3770) := ⟨HS.out.sub (.cons _ (.cons _ (.cons _ (.cons _ (.cons _ (.cons _ (.cons _ (.cons _ (.cons _ .slnil)))))))))⟩
                                  go_wp2_with fail
                                  go_ret
                                  rw [← some_eq H]
                                  exact ⟨(by first | rfl | (simp [IntKind.wrap_u32]; done)), HS.out⟩
                                · replace H := if_no c3726 H
                                  have c3726b0 : t3723 = false := by simpa using c3726
                                  have c3726b1 : (!t3723) = true := by rw [c3726b0]; rfl
                                  clear c3726
                                  replace HS : Aside0 (Sep (fps []) w [] w3725) := ⟨HS.out.sub (.cons _ (.cons _ (.cons _ (.cons _ (.cons _ (.cons _ (.cons _ (.cons _ (.cons _ .slnil)))))))))⟩
                                  go_wp2_with fail
                                  go_ret
                                  rw [← some_eq H]
                                  exact ⟨(by first | rfl | (simp [IntKind.wrap_u32]; done)), HS.out⟩
                              · replace H := if_no c3681 H
                                have c3681b0 : (t3678.1 == 0) = false := beq_eq_false_iff_ne.mpr c3681
                                have c3681b1 : (t3678.1 != 0) = true := bne_iff_ne.mpr c3681
                                clear c3681
                                replace HS : Aside0 (Sep (fps []) w [] w3680) := ⟨HS.out.sub (.cons _ (.cons _ (.cons _ (.cons _ (.cons _ (.cons _ (.cons _ (.cons _ (.cons _ .slnil)))))))))⟩
                                go_wp2_with fail
                                go_ret
                                rw [← some_eq H]
                                exact ⟨(by first | rfl | (simp [IntKind.wrap_u32]; done)), HS.out⟩
                            · replace H := if_no c3677 H
                              have c3677b0 : (t3674.1 == (wrap64 ((wrap64 (a5)) - x3543))) = false := beq_eq_false_iff_ne.mpr c3677
                              have c3677b1 : (t3674.1 != (wrap64 ((wrap64 (a5)) - x3543))) = true := bne_iff_ne.mpr c3677
                              clear c3677
                              replace HS : Aside0 (Sep (fps []) w [] w3676) := ⟨HS.out.sub (.cons _ (.cons _ (.cons _ (.cons _ (.cons _ (.cons _ (.cons _ (.cons _ (.cons _ .slnil)))))))))⟩
                              go_wp2_with fail
                              go_ret
                              rw [← some_eq H]
                              exact ⟨(by first | rfl | (simp [IntKind.wrap_u32]; done)), HS.out⟩
                          · replace H := if_no c3643 H
                            have c3643b0 : (x3543 == (wrap64 (a6))) = false := beq_eq_false_iff_ne.mpr c3643
                            have c3643b1 : (x3543 != (wrap64 (a6))) = true := bne_iff_ne.mpr c3643
                            clear c3643
                            skip
                            replace HS : Aside0 (Sep (fps []) w [] w3640) := ⟨HS.out.sub (.cons _ (.cons _ (.cons _ (.cons _ (.cons _ (.cons _ (.cons _ (.cons _ (.cons _ .slnil)))))))))⟩
                            go_wp2_with fail
                            clear c3642
                            go_ret
                            rw [← some_eq H]
                            exact ⟨(by first | rfl | (simp [IntKind.wrap_u32]; done)), HS.out⟩
                        · replace H := if_no c3642 H
                          have c3642b0 : decide (a6 < a5) = false := decide_eq_false c3642
                          by_cases c3771 : x3543 = (wrap64 (a5))
                          · replace H := if_yes c3771 H
                            have c3771b0 : (x3543 == (wrap64 (a5))) = true := beq_iff_eq.mpr c3771
                            have c3771b1 : (x3543 != (wrap64 (a5))) = false := bne_eq_false_iff_eq.mpr c3771
                            clear c3771
                            skip
                            go_wp2_with fail
                            clear c3642
                            obtain ⟨t3674, HA3772, H⟩ := bind_some H
                            refine (count_Of.calls x3545 x3546 t1826.2.1 t1826.2.2.1 t1826.2.2.2.1 t1826.2.2.2.2.1 t2786.1 g1840 g1842 A1852 ((t1826.2.2.2.2.2.2.2.2.2.2.1).length) n1854 t3674 _ ⟨HGl0.out.pass HS.out⟩ ⟨HS.out.begin⟩ HA3772).mono ?_
                            rintro e_ w3773 ⟨rfl, hS⟩
                            replace HS : Aside0 (Sep (fps []) w [b8 g1840 g1842 t1826.2.1 t1826.2.2.1 t1826.2.2.2.1 t1826.2.2.2.2.1, b7 g1842 A1852 ((t1826.2.2.2.2.2.2.2.2.2.2.1).length) n1854 t3674.2, r6 A1852 ((t1826.2.2.2.2.2.2.2.2.2.2.1).length) n1854 x3545, r12 A3556 ((t3551.2.1).length) n3558 t3551.2.1, r6 A3560 ((t3551.2.2).length) n3562 t3551.2.2, r12 A3351 ((t3346.2.1).length) n3353 t3346.2.1, r6 A3355 ((t3346.2.2).length) n3357 t3346.2.2, b24 g3359 A3351 ((t3346.2.1).length) n3353 A3355 ((t3346.2.2).length) n3357, b24 g3564 A3556 ((t3551.2.1).length) n3558 A3560 ((t3551.2.2).length) n3562] w3773) := ⟨HS.out.call hS⟩
                            clear hS
                            by_cases c3774 : t3674.1 = (wrap64 ((wrap64 (a5)) - x3543))
                            · replace H := if_yes c3774 H
                              have c3774b0 : (t3674.1 == (wrap64 ((wrap64 (a5)) - x3543))) = true := beq_iff_eq.mpr c3774
                              have c3774b1 : (t3674.1 != (wrap64 ((wrap64 (a5)) - x3543))) = false := bne_eq_false_iff_eq.mpr c3774
                              clear c3774
                              go_wp2_with fail
                              obtain ⟨t3678, HA3775, H⟩ := bind_some H
                              refine (count_Of.calls x3545 t3674.2 t1826.2.1 t1826.2.2.1 t1826.2.2.2.1 t1826.2.2.2.2.1 t2791.1 g1840 g1842 A1852 ((t1826.2.2.2.2.2.2.2.2.2.2.1).length) n1854 t3678 _ ⟨HGl0.out.pass HS.out⟩ ⟨HS.out.begin⟩ HA3775).mono ?_
                              rintro e_ w3776 ⟨rfl, hS⟩
                              replace HS : Aside0 (Sep (fps []) w [b8 g1840 g1842 t1826.2.1 t1826.2.2.1 t1826.2.2.2.1 t1826.2.2.2.2.1, b7 g1842 A1852 ((t1826.2.2.2.2.2.2.2.2.2.2.1).length) n1854 t3678.2, r6 A1852 ((t1826.2.2.2.2.2.2.2.2.2.2.1).length) n1854 x3545, r12 A3556 ((t3551.2.1).length) n3558 t3551.2.1, r6 A3560 ((t3551.2.2).length) n3562 t3551.2.2, r12 A3351 ((t3346.2.1).length) n3353 t3346.2.1, r6 A3355 ((t3346.2.2).length) n3357 t3346.2.2, b24 g3359 A3351 ((t3346.2.1).length) n3353 A3355 ((t3346.2.2).length) n3357, b24 g3564 A3556 ((t3551.2.1).length) n3558 A3560 ((t3551.2.2).length) n3562] w3776) := ⟨HS.out.call hS⟩
                              clear hS
                              by_cases c3777 : t3678.1 = 0
                              · replace H := if_yes c3777 H
                                have c3777b0 : (t3678.1 == 0) = true := beq_iff_eq.mpr c3777
                                have c3777b1 : (t3678.1 != 0) = false := bne_eq_false_iff_eq.mpr c3777
                                clear c3777
                                have hc3778 : w3776.cell? ⟨g3359, 0, none⟩ = some (.slice A3351 ((t3346.2.1).length) n3353) := blk_cellv (HS.out.at7) 0 rfl
                                have hc3779 : w3776.cell? ⟨g3564, 0, none⟩ = some (.slice A3556 ((t3551.2.1).length) n3558) := blk_cellv (HS.out.at8) 0 rfl
                                go_wp2_with fail
                                clear hc3778 hc3779
                                obtain ⟨t3723, HA3780, H⟩ := bind_some H
                                refine (quitrentref01_Ints.calls _ t3346.2.1 t3551.2.1 A3351 n3353 A3556 n3558 t3723 _ ⟨Rd.ownI (l := []) HS.out 5 rfl⟩ ⟨Rd.ownI (l := []) HS.out 3 rfl⟩ ⟨HGl0.out.pass (l := []) HS.out⟩ ⟨Sep.start _⟩ HA3780).mono ?_
                                rintro e_ w3781 ⟨rfl, hS⟩
                                replace HS : Aside0 (Sep (fps []) w [b8 g1840 g1842 t1826.2.1 t1826.2.2.1 t1826.2.2.2.1 t1826.2.2.2.2.1, b7 g1842 A1852 ((t1826.2.2.2.2.2.2.2.2.2.2.1).length) n1854 t3678.2, r6 A1852 ((t1826.2.2.2.2.2.2.2.2.2.2.1).length) n1854 x3545, r12 A3556 ((t3551.2.1).length) n3558 t3551.2.1, r6 A3560 ((t3551.2.2).length) n3562 t3551.2.2, r12 A3351 ((t3346.2.1).length) n3353 t3346.2.1, r6 A3355 ((t3346.2.2).length) n3357 t3346.2.2, b24 g3359 A3351 ((t3346.2.1).length) n3353 A3355 ((t3346.2.2).length) n3357, b24 g3564 A3556 ((t3551.2.1).length) n3558 A3560 ((t3551.2.2).length) n3562] w3781) := ⟨HS.out.call hS⟩
                                clear hS
                                by_cases c3782 : t3723 = true
                                · replace H := if_yes c3782 H
                                  have c3782b0 : t3723 = true := c3782
                                  have c3782b1 : (!t3723) = false := by rw [c3782b0]; rfl
                                  clear c3782
                                  have hc3783 : w3781.cell? ⟨g3359, 1, none⟩ = some (.slice A3355 ((t3346.2.2).length) n3357) := blk_cellv (HS.out.at7) 1 rfl
                                  have hc3784 : w3781.cell? ⟨g3564, 1, none⟩ = some (.slice A3560 ((t3551.2.2).length) n3562) := blk_cellv (HS.out.at8) 1 rfl
                                  go_wp2_with fail
                                  clear hc3783 hc3784
                                  obtain ⟨t3768, HA3785, H⟩ := bind_some H
                                  refine (quitrentref01_Same.calls _ t3346.2.2 t3551.2.2 A3355 n3357 A3560 n3562 t3768 _ ⟨Rd.ownI (l := []) HS.out 6 rfl⟩ ⟨Rd.ownI (l := []) HS.out 4 rfl⟩ ⟨HGl0.out.pass (l := []) HS.out⟩ ⟨Sep.start _⟩ HA3785).mono ?_
                                  rintro e_ w3786 ⟨rfl, hS⟩
                                  replace HS : Aside0 (Sep (fps []) w [b8 g1840 g1842 t1826.2.1 t1826.2.2.1 t1826.2.2.2.1 t1826.2.2.2.2.1, b7 g1842 A1852 ((t1826.2.2.2.2.2.2.2.2.2.2.1).length) n1854 t3678.2, r6 A1852 ((t1826.2.2.2.2.2.2.2.2.2.2.1).length) n1854 x3545, r12 A3556 ((t3551.2.1).length) n3558 t3551.2.1, r6 A3560 ((t3551.2.2).length) n3562 t3551.2.2, r12 A3351 ((t3346.2.1).length) n3353 t3346.2.1, r6 A3355 ((t3346.2.2).length) n3357 t3346.2.2, b24 g3359 A3351 ((t3346.2.1).length) n3353 A3355 ((t3346.2.2).length) n3357, b24 g3564 A3556 ((t3551.2.1).length) n3558 A3560 ((t3551.2.2).length) n3562] w3786) := ⟨HS.out.call hS⟩
                                  clear hS
                                  replace HS : Aside0 (Sep (fps []) w [] w3786) := ⟨HS.out.sub (.cons _ (.cons _ (.cons _ (.cons _ (.cons _ (.cons _ (.cons _ (.cons _ (.cons _ .slnil)))))))))⟩
                                  go_wp2_with fail
                                  go_ret
                                  rw [← some_eq H]
                                  exact ⟨(by first | rfl | (simp [IntKind.wrap_u32]; done)), HS.out⟩
                                · replace H := if_no c3782 H
                                  have c3782b0 : t3723 = false := by simpa using c3782
                                  have c3782b1 : (!t3723) = true := by rw [c3782b0]; rfl
                                  clear c3782
                                  replace HS : Aside0 (Sep (fps []) w [] w3781) := ⟨HS.out.sub (.cons _ (.cons _ (.cons _ (.cons _ (.cons _ (.cons _ (.cons _ (.cons _ (.cons _ .slnil)))))))))⟩
                                  go_wp2_with fail
                                  go_ret
                                  rw [← some_eq H]
                                  exact ⟨(by first | rfl | (simp [IntKind.wrap_u32]; done)), HS.out⟩
                              · replace H := if_no c3777 H
                                have c3777b0 : (t3678.1 == 0) = false := beq_eq_false_iff_ne.mpr c3777
                                have c3777b1 : (t3678.1 != 0) = true := bne_iff_ne.mpr c3777
                                clear c3777
                                replace HS : Aside0 (Sep (fps []) w [] w3776) := ⟨HS.out.sub (.cons _ (.cons _ (.cons _ (.cons _ (.cons _ (.cons _ (.cons _ (.cons _ (.cons _ .slnil)))))))))⟩
                                go_wp2_with fail
                                go_ret
                                rw [← some_eq H]
                                exact ⟨(by first | rfl | (simp [IntKind.wrap_u32]; done)), HS.out⟩
                            · replace H := if_no c3774 H
                              have c3774b0 : (t3674.1 == (wrap64 ((wrap64 (a5)) - x3543))) = false := beq_eq_false_iff_ne.mpr c3774
                              have c3774b1 : (t3674.1 != (wrap64 ((wrap64 (a5)) - x3543))) = true := bne_iff_ne.mpr c3774
                              clear c3774
                              replace HS : Aside0 (Sep (fps []) w [] w3773) := ⟨HS.out.sub (.cons _ (.cons _ (.cons _ (.cons _ (.cons _ (.cons _ (.cons _ (.cons _ (.cons _ .slnil)))))))))⟩
                              go_wp2_with fail
                              go_ret
                              rw [← some_eq H]
                              exact ⟨(by first | rfl | (simp [IntKind.wrap_u32]; done)), HS.out⟩
                          · replace H := if_no c3771 H
                            have c3771b0 : (x3543 == (wrap64 (a5))) = false := beq_eq_false_iff_ne.mpr c3771
                            have c3771b1 : (x3543 != (wrap64 (a5))) = true := bne_iff_ne.mpr c3771
                            clear c3771
                            skip
                            replace HS : Aside0 (Sep (fps []) w [] w3640) := ⟨HS.out.sub (.cons _ (.cons _ (.cons _ (.cons _ (.cons _ (.cons _ (.cons _ (.cons _ (.cons _ .slnil)))))))))⟩
                            go_wp2_with fail
                            clear c3642
                            go_ret
                            rw [← some_eq H]
                            exact ⟨(by first | rfl | (simp [IntKind.wrap_u32]; done)), HS.out⟩
                      · replace H := if_no c3641 H
                        have c3641b0 : t3638 = false := by simpa using c3641
                        have c3641b1 : (!t3638) = true := by rw [c3641b0]; rfl
                        clear c3641
                        replace HS : Aside0 (Sep (fps []) w [] w3640) := ⟨HS.out.sub (.cons _ (.cons _ (.cons _ (.cons _ (.cons _ (.cons _ (.cons _ (.cons _ (.cons _ .slnil)))))))))⟩
                        go_wp2_with fail
                        go_ret
                        rw [← some_eq H]
                        exact ⟨(by first | rfl | (simp [IntKind.wrap_u32]; done)), HS.out⟩
        · replace H := if_no c2795 H
          have c2795b0 : (t2791.2.1 == 0) = false := beq_eq_false_iff_ne.mpr c2795
          have c2795b1 : (t2791.2.1 != 0) = true := bne_iff_ne.mpr c2795
          clear c2795
          replace HS : Aside0 (Sep (fps []) w [b8 g1840 g1842 t1826.2.1 t1826.2.2.1 t1826.2.2.2.1 t1826.2.2.2.2.1, b7 g1842 A1852 ((t1826.2.2.2.2.2.2.2.2.2.2.1).length) n1854 t2791.2.2.1, r6 A1852 ((t1826.2.2.2.2.2.2.2.2.2.2.1).length) n1854 t2791.2.2.2] w2793) := ⟨HS.out.sub (.cons_cons _ (.cons_cons _ (.cons_cons _ (.cons _ .slnil))))⟩
          go_wp2_with fail
          obtain ⟨t3982, HA3983, H⟩ := bind_some H
          refine (quitrentlaw12_begun.calls _ t3982 _ ⟨HGl0.out.pass (l := []) HS.out⟩ ⟨Sep.start _⟩ HA3983).mono ?_
          rintro e_ w3984 ⟨rfl, hS⟩
          replace HS : Aside0 (Sep (fps []) w [b8 g1840 g1842 t1826.2.1 t1826.2.2.1 t1826.2.2.2.1 t1826.2.2.2.2.1, b7 g1842 A1852 ((t1826.2.2.2.2.2.2.2.2.2.2.1).length) n1854 t2791.2.2.1, r6 A1852 ((t1826.2.2.2.2.2.2.2.2.2.2.1).length) n1854 t2791.2.2.2] w3984) := ⟨HS.out.call hS⟩
          clear hS
          replace HS : Aside0 (Sep (fps []) w [] w3984) := ⟨HS.out.sub (.cons _ (.cons _ (.cons _ .slnil)))⟩
          go_wp2_with fail
          go_ret
          rw [← some_eq H]
          exact ⟨(by first | rfl | (simp [IntKind.wrap_u32]; done)), HS.out⟩
      · replace H := if_no c2794 H
        have c2794b0 : (t2786.2.1 == 0) = false := beq_eq_false_iff_ne.mpr c2794
        have c2794b1 : (t2786.2.1 != 0) = true := bne_iff_ne.mpr c2794
        clear c2794
        replace HS : Aside0 (Sep (fps []) w [b8 g1840 g1842 t1826.2.1 t1826.2.2.1 t1826.2.2.2.1 t1826.2.2.2.2.1, b7 g1842 A1852 ((t1826.2.2.2.2.2.2.2.2.2.2.1).length) n1854 t2791.2.2.1, r6 A1852 ((t1826.2.2.2.2.2.2.2.2.2.2.1).length) n1854 t2791.2.2.2] w2793) := ⟨HS.out.sub (.cons_cons _ (.cons_cons _ (.cons_cons _ (.cons _ .slnil))))⟩
        go_wp2_with fail
        obtain ⟨t3982, HA3985, H⟩ := bind_some H
        refine (quitrentlaw12_begun.calls _ t3982 _ ⟨HGl0.out.pass (l := []) HS.out⟩ ⟨Sep.start _⟩ HA3985).mono ?_
        rintro e_ w3986 ⟨rfl, hS⟩
        replace HS : Aside0 (Sep (fps []) w [b8 g1840 g1842 t1826.2.1 t1826.2.2.1 t1826.2.2.2.1 t1826.2.2.2.2.1, b7 g1842 A1852 ((t1826.2.2.2.2.2.2.2.2.2.2.1).length) n1854 t2791.2.2.1, r6 A1852 ((t1826.2.2.2.2.2.2.2.2.2.2.1).length) n1854 t2791.2.2.2] w3986) := ⟨HS.out.call hS⟩
        clear hS
        replace HS : Aside0 (Sep (fps []) w [] w3986) := ⟨HS.out.sub (.cons _ (.cons _ (.cons _ .slnil)))⟩
        go_wp2_with fail
        go_ret
        rw [← some_eq H]
        exact ⟨(by first | rfl | (simp [IntKind.wrap_u32]; done)), HS.out⟩
    · replace H := if_no c1860 H
      have c1860b0 : t1826.1 = false := by simpa using c1860
      have c1860b1 : (!t1826.1) = true := by rw [c1860b0]; rfl
      try rw [c1860b1]
      clear c1860
      replace HS : Aside0 (Sep (fps []) w [b8 g1840 g1842 t1826.2.1 t1826.2.2.1 t1826.2.2.2.1 t1826.2.2.2.2.1, b7 g1842 A1852 ((t1826.2.2.2.2.2.2.2.2.2.2.1).length) n1854 t1826.2.2.2.2.2.1, r6 A1852 ((t1826.2.2.2.2.2.2.2.2.2.2.1).length) n1854 t1826.2.2.2.2.2.2.2.2.2.2.1, b1 g7 a1 a2, b1 g10 a3 a4] w1831) := ⟨HS.out.sub (.cons_cons _ (.cons _ (.cons_cons _ (.cons _ (.cons _ (.cons _ (.cons_cons _ (.cons _ (.cons_cons _ (.cons_cons _ .slnil))))))))))⟩
      replace HS : Aside0 (Sep (fps []) w [] w1831) := ⟨HS.out.sub (.cons _ (.cons _ (.cons _ (.cons _ (.cons _ .slnil)))))⟩
      go_wp2_with fail
      go_ret
      rw [← some_eq H]
      exact ⟨(by first | rfl | (simp [IntKind.wrap_u32]; done)), HS.out⟩
end Go.Proofs.YtobeonkddamnoaaDoor.C

/- Each function of the group Pp does what its plain function says, and changes nothing that was there; proved by walking its code. No condition. -/
import Derived.Test.YtobeonkddamnoaaQw
import Derived.Test.YtobeonkddamnoaaMPp
import Derived.Test.YtobeonkddamnoaaGPp0
import Derived.Test.YtobeonkddamnoaaGPp1
namespace Go.Proofs.Ytobeonkddamnoaa.C
open Go.RowKit Go.Proofs.YtobeonkddamnoaaW.PrintWords Go.Proofs.YtobeonkddamnoaaW.PrintLast Go.Proofs.Ytobeonkddamnoaa.Q Go.Proofs.Ytobeonkddamnoaa.M
set_option linter.unusedVariables false
set_option linter.unusedSimpArgs false
set_option maxHeartbeats 30000000 in
set_option maxRecDepth 100000 in
theorem quitrentlaw10_do.calls (k : Nat) (l2659 : List Int) (a2664 : Int) (a2665 : Int) (a2666 : Int) (a2667 : Int) (a2668 : Int) (l2669 : List Int) (a2673 : Int) (a2674 : Int) (a2675 : Int) (a2676 : Int) (a2677 : Int) (a2678 : Int) (a2679 : Int) (a2680 : Int) (a2681 : Int) (a2682 : Int) (g2655 : Nat) (g2657 : Nat) (A2660 : Option Addr) (m2661 : Nat) (n2662 : Nat) (A2670 : Option Addr) (n2671 : Nat) (r : (Bool × Int × List Int) ⊕ (Bool × Int × List Int × List Int)) (w : World) (HR2672 : Aside0 (Rd (Kd.int .i64) (fps [b7 g2655 g2657 a2665 a2666 a2667 a2668, b6 g2657 A2660 m2661 n2662 a2664, r5 A2660 m2661 n2662 l2659]) w A2670 l2669.length l2669))  (HS : Aside0 (Sep (fps [b7 g2655 g2657 a2665 a2666 a2667 a2668, b6 g2657 A2660 m2661 n2662 a2664, r5 A2660 m2661 n2662 l2659]) w [b7 g2655 g2657 a2665 a2666 a2667 a2668, b6 g2657 A2660 m2661 n2662 a2664, r5 A2660 m2661 n2662 l2659] w)) (H : Aside0 (quitrentlaw10_do.f k l2659 a2664 a2665 a2666 a2667 a2668 l2669 a2673 a2674 a2675 a2676 a2677 a2678 a2679 a2680 a2681 a2682 = some r)) :
    Calls Try.prog 67 #[.pointer (some ⟨g2655, 0, none⟩), .slice A2670 l2669.length n2671, .agg #[.int .u8 a2673, .int .i64 a2674, .int .i64 a2675, .int .i64 a2676, .int .i64 a2677, .int .i64 a2678, .int .i64 a2679, .int .i64 a2680, .int .i64 a2681, .int .u32 a2682]] w fun e w' => Sum.elim (fun (r : Bool × Int × List Int) => e = .returned (.tuple #[.slice A2670 l2669.length n2671, .bool r.1]) ∧ Sep (fps [b7 g2655 g2657 a2665 a2666 a2667 a2668, b6 g2657 A2660 m2661 n2662 a2664, r5 A2660 m2661 n2662 l2659]) w [b7 g2655 g2657 a2665 a2666 a2667 a2668, b6 g2657 A2660 m2661 n2662 r.2.1, r5 A2660 m2661 n2662 r.2.2] w') (fun (r : Bool × Int × List Int × List Int) => ∃ (A3285 : Option Addr) (m3286 : Nat) (n3287 : Nat), e = .returned (.tuple #[.slice A3285 m3286 n3287, .bool r.1]) ∧ Sep (fps [b7 g2655 g2657 a2665 a2666 a2667 a2668, b6 g2657 A2660 m2661 n2662 a2664, r5 A2660 m2661 n2662 l2659]) w [b7 g2655 g2657 a2665 a2666 a2667 a2668, b6 g2657 A2660 m2661 n2662 r.2.1, r5 A2660 m2661 n2662 r.2.2.1, r13 A3285 m3286 n3287 r.2.2.2] w') r := by
  generalize (fps [b7 g2655 g2657 a2665 a2666 a2667 a2668, b6 g2657 A2660 m2661 n2662 a2664, r5 A2660 m2661 n2662 l2659]) = FF at HS HR2672 ⊢
  obtain rfl := (row_len (HS.out.at2)).symm
  unfold quitrentlaw10_do.f at H
  go_enter Try.func67, Try.ntmps67
  go_wp2_with (first | ((with_reducible refine gate_dst (N := 5) rfl ?_); refine box_on ?hg (N := 5) ?hd (cs := #[.int .u8 a2673, .int .i64 a2674, .int .i64 a2675, .int .i64 a2676, .int .i64 a2677, .int .i64 a2678, .int .i64 a2679, .int .i64 a2680, .int .i64 a2681, .int .u32 a2682]) (t := 104) ?hr ?_; (case hd => rfl); (case hg => rfl); (case hr => first | (go_simp; done) | (go_simp; rfl)); intro g3116 hg w3117 hbox hb; replace HS : Aside0 (Sep FF w [b7 g2655 g2657 a2665 a2666 a2667 a2668, b6 g2657 A2660 l2659.length n2662 a2664, r5 A2660 l2659.length n2662 l2659, b15 g3116 a2673 a2674 a2675 a2676 a2677 a2678 a2679 a2680 a2681 a2682] w3117) := ⟨HS.out.box hg hbox hb⟩; clear hg hbox hb))
  obtain ⟨t3119, HA3120, H⟩ := bind_some H
  refine (ground_Ground_Meter.calls l2659 a2664 a2665 a2666 a2667 a2668 g2655 g2657 A2660 l2659.length n2662 t3119 _ ⟨HS.out.begin⟩ HA3120).mono ?_
  rintro e_ w3121 ⟨rfl, hS⟩
  replace HS : Aside0 (Sep FF w [b7 g2655 g2657 a2665 a2666 a2667 a2668, b6 g2657 A2660 l2659.length n2662 a2664, r5 A2660 l2659.length n2662 l2659, b15 g3116 a2673 a2674 a2675 a2676 a2677 a2678 a2679 a2680 a2681 a2682] w3121) := ⟨HS.out.call hS⟩
  clear hS
  by_cases c3123 : a2673 = 0
  · replace H := if_yes c3123 H
    have c3123b0 : (a2673 == 0) = true := beq_iff_eq.mpr c3123
    have c3123b1 : (a2673 != 0) = false := bne_eq_false_iff_eq.mpr c3123
    clear c3123
    have hc3122 : w3121.cell? ⟨g3116, 0, none⟩ = some (.int .u8 a2673) := blk_cellv (HS.out.at3) 0 rfl
    go_wp2_with fail
    clear hc3122
    obtain ⟨t3124, HA3125, H⟩ := bind_some H
    refine (pool_Take.calls _ l2659 a2664 a2665 a2666 a2667 a2668 g2655 g2657 A2660 l2659.length n2662 t3124 _ ⟨HS.out.begin⟩ HA3125).mono ?_
    rintro e_ w3126 ⟨rfl, hS⟩
    replace HS : Aside0 (Sep FF w [b7 g2655 g2657 a2665 a2666 a2667 a2668, b6 g2657 A2660 l2659.length n2662 t3124.2.2.1, r5 A2660 l2659.length n2662 t3124.2.2.2, b15 g3116 a2673 a2674 a2675 a2676 a2677 a2678 a2679 a2680 a2681 a2682] w3126) := ⟨HS.out.call hS⟩
    clear hS
    by_cases c3127 : (l2669.length : Int) = 0
    · replace H := if_yes c3127 H
      have c3127b0 : ((l2669.length : Int) == 0) = true := beq_iff_eq.mpr c3127
      have c3127b1 : ((l2669.length : Int) != 0) = false := bne_eq_false_iff_eq.mpr c3127
      clear c3127
      by_cases c3128 : t3124.1 = 0
      · replace H := if_yes c3128 H
        have c3128b0 : (t3124.1 == 0) = true := beq_iff_eq.mpr c3128
        have c3128b1 : (t3124.1 != 0) = false := bne_eq_false_iff_eq.mpr c3128
        clear c3128
        replace HS : Aside0 (Sep FF w [b7 g2655 g2657 a2665 a2666 a2667 a2668, b6 g2657 A2660 l2659.length n2662 t3124.2.2.1, r5 A2660 l2659.length n2662 t3124.2.2.2] w3126) := ⟨HS.out.sub (.cons_cons _ (.cons_cons _ (.cons_cons _ (.cons _ .slnil))))⟩
        go_wp2_with fail
        go_ret2
        rw [← some_eq H]
        exact ⟨(by first | rfl | (simp [IntKind.wrap_u32]; done)), HS.out⟩
      · replace H := if_no c3128 H
        have c3128b0 : (t3124.1 == 0) = false := beq_eq_false_iff_ne.mpr c3128
        have c3128b1 : (t3124.1 != 0) = true := bne_iff_ne.mpr c3128
        clear c3128
        replace HS : Aside0 (Sep FF w [b7 g2655 g2657 a2665 a2666 a2667 a2668, b6 g2657 A2660 l2659.length n2662 t3124.2.2.1, r5 A2660 l2659.length n2662 t3124.2.2.2] w3126) := ⟨HS.out.sub (.cons_cons _ (.cons_cons _ (.cons_cons _ (.cons _ .slnil))))⟩
        go_wp2_with fail
        go_ret2
        rw [← some_eq H]
        exact ⟨(by first | rfl | (simp [IntKind.wrap_u32]; done)), HS.out⟩
    · replace H := if_no c3127 H
      have c3127b0 : ((l2669.length : Int) == 0) = false := beq_eq_false_iff_ne.mpr c3127
      have c3127b1 : ((l2669.length : Int) != 0) = true := bne_iff_ne.mpr c3127
      clear c3127
      by_cases c3129 : 0 < (l2669.length : Int)
      · replace H := if_yes c3129 H
        have c3129b0 : decide (0 < (l2669.length : Int)) = true := decide_eq_true c3129
        have c3129b1 : decide (0 < l2669.length) = true := decide_eq_true (by omega)
        have c3129p : (0 < (l2669.length : Int)) = True := eq_true c3129
        have c3129n : (0 < l2669.length) = True := eq_true (by omega)
        clear c3129
        by_cases c3131 : t3124.1 = (rd l2669 0)
        · replace H := if_yes c3131 H
          have c3131b0 : (t3124.1 == (rd l2669 0)) = true := beq_iff_eq.mpr c3131
          have c3131b1 : (t3124.1 != (rd l2669 0)) = false := bne_eq_false_iff_eq.mpr c3131
          clear c3131
          by_cases c3132 : t3124.2.1 = true
          · replace H := if_yes c3132 H
            have c3132b0 : t3124.2.1 = true := c3132
            have c3132b1 : (!t3124.2.1) = false := by rw [c3132b0]; rfl
            try rw [c3132b1]
            clear c3132
            obtain ⟨hx3130a, hx3130e, hx3130⟩ := Kd.at_int (Rd.read (fun _ _ _ _ h => h) HR2672.out HS.out.fr) 0 (by decide) (of_decide_eq_true c3129b0); cases hx3130e
            have hx3130z : w3126.cell? hx3130a = some (.int .i64 (rd l2669 0)) := hx3130
            go_wp2_with fail
            clear hx3130 hx3130z
            obtain ⟨t3133, HA3134, H⟩ := bind_some H
            refine (quitrentlaw10_wiped.calls _ t3124.2.2.2 t3124.2.2.1 a2665 a2666 a2667 a2668 t3124.1 g2655 g2657 A2660 l2659.length n2662 t3133 _ ⟨HS.out.begin⟩ HA3134).mono ?_
            rintro e_ w3135 ⟨rfl, hS⟩
            replace HS : Aside0 (Sep FF w [b7 g2655 g2657 a2665 a2666 a2667 a2668, b6 g2657 A2660 l2659.length n2662 t3124.2.2.1, r5 A2660 l2659.length n2662 t3124.2.2.2, b15 g3116 a2673 a2674 a2675 a2676 a2677 a2678 a2679 a2680 a2681 a2682] w3135) := ⟨HS.out.call hS⟩
            clear hS
            by_cases c3136 : t3133 = true
            · replace H := if_yes c3136 H
              have c3136b0 : t3133 = true := c3136
              have c3136b1 : (!t3133) = false := by rw [c3136b0]; rfl
              try rw [c3136b1]
              clear c3136
              go_wp2_with fail
              obtain ⟨t3137, HA3138, H⟩ := bind_some H
              refine (ground_Ground_Meter.calls t3124.2.2.2 t3124.2.2.1 a2665 a2666 a2667 a2668 g2655 g2657 A2660 l2659.length n2662 t3137 _ ⟨HS.out.begin⟩ HA3138).mono ?_
              rintro e_ w3139 ⟨rfl, hS⟩
              replace HS : Aside0 (Sep FF w [b7 g2655 g2657 a2665 a2666 a2667 a2668, b6 g2657 A2660 l2659.length n2662 t3124.2.2.1, r5 A2660 l2659.length n2662 t3124.2.2.2, b15 g3116 a2673 a2674 a2675 a2676 a2677 a2678 a2679 a2680 a2681 a2682] w3139) := ⟨HS.out.call hS⟩
              clear hS
              go_wp2_with fail
              obtain ⟨t3140, HA3141, H⟩ := bind_some H
              refine (ground_Ground_Conf.calls t3124.2.2.2 t3124.2.2.1 a2665 a2666 a2667 a2668 g2655 g2657 A2660 l2659.length n2662 t3140 _ ⟨HS.out.begin⟩ HA3141).mono ?_
              rintro e_ w3142 ⟨rfl, hS⟩
              replace HS : Aside0 (Sep FF w [b7 g2655 g2657 a2665 a2666 a2667 a2668, b6 g2657 A2660 l2659.length n2662 t3124.2.2.1, r5 A2660 l2659.length n2662 t3124.2.2.2, b15 g3116 a2673 a2674 a2675 a2676 a2677 a2678 a2679 a2680 a2681 a2682] w3142) := ⟨HS.out.call hS⟩
              clear hS
              by_cases c3144 : (IntKind.u64.wrap (t3137 - t3119)) > (IntKind.u64.wrap (wrap64 (t3140.2.1 + 24)))
              · replace H := if_yes c3144 H
                have c3144b0 : decide ((IntKind.u64.wrap (wrap64 (t3140.2.1 + 24))) < (IntKind.u64.wrap (t3137 - t3119))) = true := decide_eq_true c3144
                clear c3144
                have fl3143 : ∀ w, (Instr.field 49 (.agg #[.int .i64 t3140.1, .int .i64 t3140.2.1, .int .i64 t3140.2.2.1, .int .i64 t3140.2.2.2]) 1).run Try.prog w = .ok (.int .i64 t3140.2.1) w := fun _ => by kernel_rfl
                replace HS : Aside0 (Sep FF w [b7 g2655 g2657 a2665 a2666 a2667 a2668, b6 g2657 A2660 l2659.length n2662 t3124.2.2.1, r5 A2660 l2659.length n2662 t3124.2.2.2] w3142) := ⟨HS.out.sub (.cons_cons _ (.cons_cons _ (.cons_cons _ (.cons _ .slnil))))⟩
                go_wp2_with fail
                clear fl3143
                go_ret2
                rw [← some_eq H]
                exact ⟨(by first | rfl | (simp [IntKind.wrap_u32]; done)), HS.out⟩
              · replace H := if_no c3144 H
                have c3144b0 : decide ((IntKind.u64.wrap (wrap64 (t3140.2.1 + 24))) < (IntKind.u64.wrap (t3137 - t3119))) = false := decide_eq_false c3144
                clear c3144
                have fl3143 : ∀ w, (Instr.field 49 (.agg #[.int .i64 t3140.1, .int .i64 t3140.2.1, .int .i64 t3140.2.2.1, .int .i64 t3140.2.2.2]) 1).run Try.prog w = .ok (.int .i64 t3140.2.1) w := fun _ => by kernel_rfl
                have hc3145 : w3142.cell? ⟨g3116, 0, none⟩ = some (.int .u8 a2673) := blk_cellv (HS.out.at3) 0 rfl
                have hc3146 : w3142.cell? ⟨g3116, 1, none⟩ = some (.int .i64 a2674) := blk_cellv (HS.out.at3) 1 rfl
                have hc3147 : w3142.cell? ⟨g3116, 2, none⟩ = some (.int .i64 a2675) := blk_cellv (HS.out.at3) 2 rfl
                have hc3148 : w3142.cell? ⟨g3116, 3, none⟩ = some (.int .i64 a2676) := blk_cellv (HS.out.at3) 3 rfl
                have hc3149 : w3142.cell? ⟨g3116, 4, none⟩ = some (.int .i64 a2677) := blk_cellv (HS.out.at3) 4 rfl
                have hc3150 : w3142.cell? ⟨g3116, 5, none⟩ = some (.int .i64 a2678) := blk_cellv (HS.out.at3) 5 rfl
                have hc3151 : w3142.cell? ⟨g3116, 6, none⟩ = some (.int .i64 a2679) := blk_cellv (HS.out.at3) 6 rfl
                have hc3152 : w3142.cell? ⟨g3116, 7, none⟩ = some (.int .i64 a2680) := blk_cellv (HS.out.at3) 7 rfl
                have hc3153 : w3142.cell? ⟨g3116, 8, none⟩ = some (.int .i64 a2681) := blk_cellv (HS.out.at3) 8 rfl
                have hc3154 : w3142.cell? ⟨g3116, 9, none⟩ = some (.int .u32 a2682) := blk_cellv (HS.out.at3) 9 rfl
                go_wp2_with fail
                clear fl3143 hc3145 hc3146 hc3147 hc3148 hc3149 hc3150 hc3151 hc3152 hc3153 hc3154
                obtain ⟨t3155, HA3156, H⟩ := bind_some H
                refine (quitrentlaw10_use.calls _ t3124.2.2.2 t3124.2.2.1 a2665 a2666 a2667 a2668 t3124.1 a2673 a2674 a2675 a2676 a2677 a2678 a2679 a2680 a2681 a2682 g2655 g2657 A2660 l2659.length n2662 t3155 _ ⟨HS.out.begin⟩ HA3156).mono ?_
                rintro e_ w3157 ⟨rfl, hS⟩
                replace HS : Aside0 (Sep FF w [b7 g2655 g2657 a2665 a2666 a2667 a2668, b6 g2657 A2660 l2659.length n2662 t3155.1, r5 A2660 l2659.length n2662 t3155.2, b15 g3116 a2673 a2674 a2675 a2676 a2677 a2678 a2679 a2680 a2681 a2682] w3157) := ⟨HS.out.call hS⟩
                clear hS
                replace HS : Aside0 (Sep FF w [b7 g2655 g2657 a2665 a2666 a2667 a2668, b6 g2657 A2660 l2659.length n2662 t3155.1, r5 A2660 l2659.length n2662 t3155.2] w3157) := ⟨HS.out.sub (.cons_cons _ (.cons_cons _ (.cons_cons _ (.cons _ .slnil))))⟩
                go_wp2_with fail
                obtain ⟨t3158, HA3159, H⟩ := bind_some H
                refine (quitrentref08_Rest.calls _ l2669 (some hx3130a) n2671 t3158 _ ⟨Rd.pass (l := []) (by decide) (fun _ _ _ _ h => h) HR2672.out HS.out⟩ ⟨Sep.start _⟩ HA3159).mono ?_
                rintro e_ w3160 ⟨A3162, m3163, n3164, rfl, hS⟩
                replace HS : Aside0 (Sep FF w [r13 A3162 m3163 n3164 t3158, b7 g2655 g2657 a2665 a2666 a2667 a2668, b6 g2657 A2660 l2659.length n2662 t3155.1, r5 A2660 l2659.length n2662 t3155.2] w3160) := ⟨HS.out.call hS⟩
                clear hS
                obtain rfl := (row_len (HS.out.at0)).symm
                go_wp2_with fail
                go_ret2
                rw [← some_eq H]
                exact ⟨A3162, t3158.length, n3164, (by first | rfl | (simp [IntKind.wrap_u32]; done)), ((((HS.out).front 3 (by simp)).front 3 (by simp)).front 3 (by simp)).keep (l := [b7 g2655 g2657 a2665 a2666 a2667 a2668, b6 g2657 A2660 l2659.length n2662 t3155.1, r5 A2660 l2659.length n2662 t3155.2, r13 A3162 t3158.length n3164 t3158]) (rest := [])⟩
            · replace H := if_no c3136 H
              have c3136b0 : t3133 = false := by simpa using c3136
              have c3136b1 : (!t3133) = true := by rw [c3136b0]; rfl
              try rw [c3136b1]
              clear c3136
              replace HS : Aside0 (Sep FF w [b7 g2655 g2657 a2665 a2666 a2667 a2668, b6 g2657 A2660 l2659.length n2662 t3124.2.2.1, r5 A2660 l2659.length n2662 t3124.2.2.2] w3135) := ⟨HS.out.sub (.cons_cons _ (.cons_cons _ (.cons_cons _ (.cons _ .slnil))))⟩
              go_wp2_with fail
              go_ret2
              rw [← some_eq H]
              exact ⟨(by first | rfl | (simp [IntKind.wrap_u32]; done)), HS.out⟩
          · replace H := if_no c3132 H
            have c3132b0 : t3124.2.1 = false := by simpa using c3132
            have c3132b1 : (!t3124.2.1) = true := by rw [c3132b0]; rfl
            try rw [c3132b1]
            clear c3132
            obtain ⟨hx3130a, hx3130e, hx3130⟩ := Kd.at_int (Rd.read (fun _ _ _ _ h => h) HR2672.out HS.out.fr) 0 (by decide) (of_decide_eq_true c3129b0); cases hx3130e
            have hx3130z : w3126.cell? hx3130a = some (.int .i64 (rd l2669 0)) := hx3130
            replace HS : Aside0 (Sep FF w [b7 g2655 g2657 a2665 a2666 a2667 a2668, b6 g2657 A2660 l2659.length n2662 t3124.2.2.1, r5 A2660 l2659.length n2662 t3124.2.2.2] w3126) := ⟨HS.out.sub (.cons_cons _ (.cons_cons _ (.cons_cons _ (.cons _ .slnil))))⟩
            go_wp2_with fail
            clear hx3130 hx3130z
            go_ret2
            rw [← some_eq H]
            exact ⟨(by first | rfl | (simp [IntKind.wrap_u32]; done)), HS.out⟩
        · replace H := if_no c3131 H
          have c3131b0 : (t3124.1 == (rd l2669 0)) = false := beq_eq_false_iff_ne.mpr c3131
          have c3131b1 : (t3124.1 != (rd l2669 0)) = true := bne_iff_ne.mpr c3131
          clear c3131
          obtain ⟨hx3130a, hx3130e, hx3130⟩ := Kd.at_int (Rd.read (fun _ _ _ _ h => h) HR2672.out HS.out.fr) 0 (by decide) (of_decide_eq_true c3129b0); cases hx3130e
          have hx3130z : w3126.cell? hx3130a = some (.int .i64 (rd l2669 0)) := hx3130
          replace HS : Aside0 (Sep FF w [b7 g2655 g2657 a2665 a2666 a2667 a2668, b6 g2657 A2660 l2659.length n2662 t3124.2.2.1, r5 A2660 l2659.length n2662 t3124.2.2.2] w3126) := ⟨HS.out.sub (.cons_cons _ (.cons_cons _ (.cons_cons _ (.cons _ .slnil))))⟩
          go_wp2_with fail
          clear hx3130 hx3130z
          go_ret2
          rw [← some_eq H]
          exact ⟨(by first | rfl | (simp [IntKind.wrap_u32]; done)), HS.out⟩
      · replace H := if_no c3129 H
        have c3129b0 : decide (0 < (l2669.length : Int)) = false := decide_eq_false c3129
        have c3129b1 : decide (0 < l2669.length) = false := decide_eq_false (by omega)
        clear c3129
        exact (none_no H).elim
  · replace H := if_no c3123 H
    have c3123b0 : (a2673 == 0) = false := beq_eq_false_iff_ne.mpr c3123
    have c3123b1 : (a2673 != 0) = true := bne_iff_ne.mpr c3123
    clear c3123
    by_cases c3171 : a2673 = 1
    · replace H := if_yes c3171 H
      have c3171b0 : (a2673 == 1) = true := beq_iff_eq.mpr c3171
      have c3171b1 : (a2673 != 1) = false := bne_eq_false_iff_eq.mpr c3171
      clear c3171
      have hc3122 : w3121.cell? ⟨g3116, 0, none⟩ = some (.int .u8 a2673) := blk_cellv (HS.out.at3) 0 rfl
      go_wp2_with fail
      clear hc3122
      refine start_ (n := 20) (S := (fun w' => w'.cell? ⟨g3116, 1, none⟩ = some (.int .i64 a2674))) (ds := []) #[false, false, false, false, false, false, false, false, false, false, false, false, false, false, false, false, false, false, false, false] (by kernel_rfl) rfl rfl (blk_cellv ((HS.out.drew).at3) 1 rfl) (fun hHeld => ?_)
      have HS_ := Aside0.mk HS.out.drew
      clear HS
      generalize World.drew _ = w3173 at HS_ hHeld ⊢
      have HS := HS_
      clear HS_
      refine pure_ (i := 0) (N := some 69) (v := ?_) (a' := ?_) #[true, false, false, false, false, false, false, false, false, false, false, false, false, false, false, false, false, false, false, false] rfl rfl (by kernel_rfl) (fun _ _ _ h => h) (Or.inl ⟨by rfl, ?_⟩) ?_ ?_
      rotate_left
      · intro w'
        go_simp
        with_reducible rfl
      rotate_left
      · simp only [Act.put, List.setIfInBounds_toArray, List.set_cons_zero, List.set_cons_succ, i64_w, i32_w]
        rfl
      refine take_ (i := 1) (N := some 70) (v := ?_) (a' := ?_) #[true, true, false, false, false, false, false, false, false, false, false, false, false, false, false, false, false, false, false, false] rfl rfl (by kernel_rfl) (fun _ _ _ h => h) (Or.inl ⟨by rfl, ?_⟩) hHeld ?_ ?_
      rotate_left
      · rintro w' hS'
        have s0 := hS'
        go_simp
        with_reducible rfl
      rotate_left
      · simp only [Act.put, List.setIfInBounds_toArray, List.set_cons_zero, List.set_cons_succ, i64_w, i32_w]
        rfl
      refine pure_ (i := 2) (N := some 71) (v := ?_) (a' := ?_) #[true, true, true, false, false, false, false, false, false, false, false, false, false, false, false, false, false, false, false, false] rfl rfl (by kernel_rfl) (fun _ _ _ h => h) (Or.inl ⟨by rfl, ?_⟩) ?_ ?_
      rotate_left
      · intro w'
        go_simp
        with_reducible rfl
      rotate_left
      · simp only [Act.put, List.setIfInBounds_toArray, List.set_cons_zero, List.set_cons_succ, i64_w, i32_w]
        rfl
      refine pure_ (i := 3) (N := some 72) (v := ?_) (a' := ?_) #[true, true, true, true, false, false, false, false, false, false, false, false, false, false, false, false, false, false, false, false] rfl rfl (by kernel_rfl) (fun _ _ _ h => h) (Or.inl ⟨by rfl, ?_⟩) ?_ ?_
      rotate_left
      · intro w'
        go_simp
        with_reducible rfl
      rotate_left
      · simp only [Act.put, List.setIfInBounds_toArray, List.set_cons_zero, List.set_cons_succ, i64_w, i32_w]
        rfl
      by_cases c3174 : a2674 ≥ 0
      · replace H := if_yes c3174 H
        have c3174b0 : decide (0 ≤ a2674) = true := decide_eq_true c3174
        clear c3174
        try simp only [c3174b0, Bool.not_true, Bool.not_false]
        refine pure_ (i := 4) (N := some 73) (v := ?_) (a' := ?_) #[true, true, true, true, true, false, false, false, false, false, false, false, false, false, false, false, false, false, false, false] rfl rfl (by kernel_rfl) (fun _ _ _ h => h) (Or.inl ⟨by rfl, ?_⟩) ?_ ?_
        rotate_left
        · intro w'
          go_simp
          with_reducible rfl
        rotate_left
        · simp only [Act.put, List.setIfInBounds_toArray, List.set_cons_zero, List.set_cons_succ, i64_w, i32_w]
          rfl
        try simp only [c3174b0, Bool.not_true, Bool.not_false]
        refine pure_ (i := 6) (N := some 75) (v := ?_) (a' := ?_) #[true, true, true, true, true, false, true, false, false, false, false, false, false, false, false, false, false, false, false, false] rfl rfl (by kernel_rfl) (fun _ _ _ h => h) (Or.inl ⟨by rfl, ?_⟩) ?_ ?_
        rotate_left
        · intro w'
          go_simp
          with_reducible rfl
        rotate_left
        · simp only [Act.put, List.setIfInBounds_toArray, List.set_cons_zero, List.set_cons_succ, i64_w, i32_w]
          rfl
        try simp only [c3174b0, Bool.not_true, Bool.not_false]
        refine take_ (i := 5) (N := some 74) (v := ?_) (a' := ?_) #[true, true, true, true, true, true, true, false, false, false, false, false, false, false, false, false, false, false, false, false] rfl rfl (by kernel_rfl) (fun _ _ _ h => h) (Or.inl ⟨by rfl, ?_⟩) hHeld ?_ ?_
        rotate_left
        · rintro w' hS'
          have s0 := hS'
          go_simp
          with_reducible rfl
        rotate_left
        · simp only [Act.put, List.setIfInBounds_toArray, List.set_cons_zero, List.set_cons_succ, i64_w, i32_w]
          rfl
        try simp only [c3174b0, Bool.not_true, Bool.not_false]
        refine one_ (i := 7) (N := some 76) #[true, true, true, true, true, true, true, true, false, false, false, false, false, false, false, false, false, false, false, false] rfl rfl (by kernel_rfl) (by decide) (fun K hK => ?_)
        obtain ⟨t3175, HA3176, H⟩ := bind_some H
        refine goes_ Try.func39 (by kernel_rfl) rfl #[.pointer (some ⟨g2655, 0, none⟩)] (by rfl) rfl rfl (by (try simp only [List.map_toArray, List.map_cons, List.map_nil]); first | done | rfl) ?_
        refine (ground_Ground_Conf.calls l2659 a2664 a2665 a2666 a2667 a2668 g2655 g2657 A2660 l2659.length n2662 t3175 _ ⟨HS.out.begin⟩ HA3176).mono ?_
        rintro e_ w3177 ⟨rfl, hS⟩
        replace HS : Aside0 (Sep FF w [b7 g2655 g2657 a2665 a2666 a2667 a2668, b6 g2657 A2660 l2659.length n2662 a2664, r5 A2660 l2659.length n2662 l2659, b15 g3116 a2673 a2674 a2675 a2676 a2677 a2678 a2679 a2680 a2681 a2682] w3177) := ⟨HS.out.call hS⟩
        clear hS
        refine ⟨_, rfl, ?_⟩
        refine hK.out _ _ (blk_cellv (HS.out.at3) 1 rfl) (fun hHeld => ?_)
        clear hK K
        refine norm_ (a' := ?_) ?_ ?_
        rotate_left
        · show Act.put _ (some 76) _ = _
          simp only [Act.put, List.setIfInBounds_toArray, List.set_cons_zero, List.set_cons_succ, i64_w, i32_w]
          rfl
        try simp only [c3174b0, Bool.not_true, Bool.not_false]
        refine pure_ (i := 8) (N := some 77) (v := ?_) (a' := ?_) #[true, true, true, true, true, true, true, true, true, false, false, false, false, false, false, false, false, false, false, false] rfl rfl (by kernel_rfl) (fun _ _ _ h => h) (Or.inl ⟨by rfl, ?_⟩) ?_ ?_
        rotate_left
        · have fl_ : ∀ w, (Instr.field 49 (.agg #[.int .i64 t3175.1, .int .i64 t3175.2.1, .int .i64 t3175.2.2.1, .int .i64 t3175.2.2.2]) 0).run Try.prog w = .ok (.int .i64 t3175.1) w := fun _ => by kernel_rfl
          intro w'
          go_simp
          with_reducible rfl
        rotate_left
        · simp only [Act.put, List.setIfInBounds_toArray, List.set_cons_zero, List.set_cons_succ, i64_w, i32_w]
          rfl
        try simp only [c3174b0, Bool.not_true, Bool.not_false]
        refine pure_ (i := 9) (N := some 78) (v := ?_) (a' := ?_) #[true, true, true, true, true, true, true, true, true, true, false, false, false, false, false, false, false, false, false, false] rfl rfl (by kernel_rfl) (fun _ _ _ h => h) (Or.inl ⟨by rfl, ?_⟩) ?_ ?_
        rotate_left
        · intro w'
          go_simp
          with_reducible rfl
        rotate_left
        · simp only [Act.put, List.setIfInBounds_toArray, List.set_cons_zero, List.set_cons_succ, i64_w, i32_w]
          rfl
        refine pure_ (i := 10) (N := some 79) (v := ?_) (a' := ?_) #[true, true, true, true, true, true, true, true, true, true, true, false, false, false, false, false, false, false, false, false] rfl rfl (by kernel_rfl) (fun _ _ _ h => h) (Or.inl ⟨by rfl, ?_⟩) ?_ ?_
        rotate_left
        · intro w'
          go_simp
          with_reducible rfl
        rotate_left
        · simp only [Act.put, List.setIfInBounds_toArray, List.set_cons_zero, List.set_cons_succ, i64_w, i32_w]
          rfl
        refine pure_ (i := 11) (N := some 80) (v := ?_) (a' := ?_) #[true, true, true, true, true, true, true, true, true, true, true, true, false, false, false, false, false, false, false, false] rfl rfl (by kernel_rfl) (fun _ _ _ h => h) (Or.inl ⟨by rfl, ?_⟩) ?_ ?_
        rotate_left
        · intro w'
          go_simp
          with_reducible rfl
        rotate_left
        · simp only [Act.put, List.setIfInBounds_toArray, List.set_cons_zero, List.set_cons_succ, i64_w, i32_w]
          rfl
        by_cases c3178 : a2674 < t3175.1
        · replace H := if_yes c3178 H
          have c3178b0 : decide (a2674 < t3175.1) = true := decide_eq_true c3178
          clear c3178
          try simp only [c3178b0, Bool.not_true, Bool.not_false]
          refine pure_ (i := 12) (N := some 81) (v := ?_) (a' := ?_) #[true, true, true, true, true, true, true, true, true, true, true, true, true, false, false, false, false, false, false, false] rfl rfl (by kernel_rfl) (fun _ _ _ h => h) (Or.inl ⟨by rfl, ?_⟩) ?_ ?_
          rotate_left
          · intro w'
            go_simp
            with_reducible rfl
          rotate_left
          · simp only [Act.put, List.setIfInBounds_toArray, List.set_cons_zero, List.set_cons_succ, i64_w, i32_w]
            rfl
          try simp only [c3178b0, Bool.not_true, Bool.not_false]
          refine pure_ (i := 13) (N := some 82) (v := ?_) (a' := ?_) #[true, true, true, true, true, true, true, true, true, true, true, true, true, true, false, false, false, false, false, false] rfl rfl (by kernel_rfl) (fun _ _ _ h => h) (Or.inl ⟨by rfl, ?_⟩) ?_ ?_
          rotate_left
          · intro w'
            go_simp
            with_reducible rfl
          rotate_left
          · simp only [Act.put, List.setIfInBounds_toArray, List.set_cons_zero, List.set_cons_succ, i64_w, i32_w]
            rfl
          try simp only [c3178b0, Bool.not_true, Bool.not_false]
          refine take_ (i := 14) (N := some 83) (v := ?_) (a' := ?_) #[true, true, true, true, true, true, true, true, true, true, true, true, true, true, true, false, false, false, false, false] rfl rfl (by kernel_rfl) (fun _ _ _ h => h) (Or.inl ⟨by rfl, ?_⟩) hHeld ?_ ?_
          rotate_left
          · rintro w' hS'
            have s0 := hS'
            go_simp
            with_reducible rfl
          rotate_left
          · simp only [Act.put, List.setIfInBounds_toArray, List.set_cons_zero, List.set_cons_succ, i64_w, i32_w]
            rfl
          try simp only [c3178b0, Bool.not_true, Bool.not_false]
          refine one_ (i := 15) (N := some 84) #[true, true, true, true, true, true, true, true, true, true, true, true, true, true, true, true, false, false, false, false] rfl rfl (by kernel_rfl) (by decide) (fun K hK => ?_)
          obtain ⟨t3179, HA3180, H⟩ := bind_some H
          refine goes_ Try.func50 (by kernel_rfl) rfl #[.pointer (some ⟨g2655, 0, none⟩), .int .i64 a2674, .int .i64 0] (by rfl) rfl rfl (by (try simp only [List.map_toArray, List.map_cons, List.map_nil]); first | done | rfl) ?_
          refine (ground_Ground_SeeWord.calls l2659 a2664 a2665 a2666 a2667 a2668 a2674 0 g2655 g2657 A2660 l2659.length n2662 t3179 _ ⟨HS.out.begin⟩ HA3180).mono ?_
          rintro e_ w3181 ⟨rfl, hS⟩
          replace HS : Aside0 (Sep FF w [b7 g2655 g2657 a2665 a2666 a2667 a2668, b6 g2657 A2660 l2659.length n2662 a2664, r5 A2660 l2659.length n2662 l2659, b15 g3116 a2673 a2674 a2675 a2676 a2677 a2678 a2679 a2680 a2681 a2682] w3181) := ⟨HS.out.call hS⟩
          clear hS
          refine ⟨_, rfl, ?_⟩
          refine hK.out _ _ (blk_cellv (HS.out.at3) 1 rfl) (fun hHeld => ?_)
          clear hK K
          refine norm_ (a' := ?_) ?_ ?_
          rotate_left
          · show Act.put _ (some 84) _ = _
            simp only [Act.put, List.setIfInBounds_toArray, List.set_cons_zero, List.set_cons_succ, i64_w, i32_w]
            rfl
          try simp only [c3178b0, Bool.not_true, Bool.not_false]
          refine pure_ (i := 16) (N := some 85) (v := ?_) (a' := ?_) #[true, true, true, true, true, true, true, true, true, true, true, true, true, true, true, true, true, false, false, false] rfl rfl (by kernel_rfl) (fun _ _ _ h => h) (Or.inl ⟨by rfl, ?_⟩) ?_ ?_
          rotate_left
          · intro w'
            go_simp
            with_reducible rfl
          rotate_left
          · simp only [Act.put, List.setIfInBounds_toArray, List.set_cons_zero, List.set_cons_succ, i64_w, i32_w]
            rfl
          try simp only [c3178b0, Bool.not_true, Bool.not_false]
          refine pure_ (i := 17) (N := some 86) (v := ?_) (a' := ?_) #[true, true, true, true, true, true, true, true, true, true, true, true, true, true, true, true, true, true, false, false] rfl rfl (by kernel_rfl) (fun _ _ _ h => h) (Or.inl ⟨by rfl, ?_⟩) ?_ ?_
          rotate_left
          · intro w'
            go_simp
            with_reducible rfl
          rotate_left
          · simp only [Act.put, List.setIfInBounds_toArray, List.set_cons_zero, List.set_cons_succ, i64_w, i32_w]
            rfl
          refine pure_ (i := 18) (N := some 87) (v := ?_) (a' := ?_) #[true, true, true, true, true, true, true, true, true, true, true, true, true, true, true, true, true, true, true, false] rfl rfl (by kernel_rfl) (fun _ _ _ h => h) (Or.inl ⟨by rfl, ?_⟩) ?_ ?_
          rotate_left
          · intro w'
            go_simp
            with_reducible rfl
          rotate_left
          · simp only [Act.put, List.setIfInBounds_toArray, List.set_cons_zero, List.set_cons_succ, i64_w, i32_w]
            rfl
          refine pure_ (i := 19) (N := some 11) (v := ?_) (a' := ?_) #[true, true, true, true, true, true, true, true, true, true, true, true, true, true, true, true, true, true, true, true] rfl rfl (by kernel_rfl) (fun _ _ _ h => h) (Or.inl ⟨by rfl, ?_⟩) ?_ ?_
          rotate_left
          · intro w'
            go_simp
            with_reducible rfl
          rotate_left
          · simp only [Act.put, List.setIfInBounds_toArray, List.set_cons_zero, List.set_cons_succ, i64_w, i32_w]
            rfl
          refine done_ (by kernel_rfl) ?_
          have hc3182 : w3181.cell? ⟨g3116, 1, none⟩ = some (.int .i64 a2674) := blk_cellv (HS.out.at3) 1 rfl
          go_wp2_with fail
          clear hc3182
          obtain ⟨t3183, HA3184, H⟩ := bind_some H
          refine (pool_Give.calls l2659 a2664 a2665 a2666 a2667 a2668 a2674 g2655 g2657 A2660 l2659.length n2662 t3183 _ ⟨HS.out.begin⟩ HA3184).mono ?_
          rintro e_ w3185 ⟨rfl, hS⟩
          replace HS : Aside0 (Sep FF w [b7 g2655 g2657 a2665 a2666 a2667 a2668, b6 g2657 A2660 l2659.length n2662 t3183.2.1, r5 A2660 l2659.length n2662 t3183.2.2, b15 g3116 a2673 a2674 a2675 a2676 a2677 a2678 a2679 a2680 a2681 a2682] w3185) := ⟨HS.out.call hS⟩
          clear hS
          by_cases c3186 : t3183.1 = true
          · replace H := if_yes c3186 H
            have c3186b0 : t3183.1 = true := c3186
            have c3186b1 : (!t3183.1) = false := by rw [c3186b0]; rfl
            clear c3186
            by_cases c3187 : (Int.tmod t3179 4) = 0
            · replace H := if_yes c3187 H
              have c3187b0 : ((Int.tmod t3179 4) == 0) = true := beq_iff_eq.mpr c3187
              have c3187b1 : ((Int.tmod t3179 4) != 0) = false := bne_eq_false_iff_eq.mpr c3187
              clear c3187
              replace HS : Aside0 (Sep FF w [b7 g2655 g2657 a2665 a2666 a2667 a2668, b6 g2657 A2660 l2659.length n2662 t3183.2.1, r5 A2660 l2659.length n2662 t3183.2.2] w3185) := ⟨HS.out.sub (.cons_cons _ (.cons_cons _ (.cons_cons _ (.cons _ .slnil))))⟩
              go_wp2_with fail
              go_ret2
              rw [← some_eq H]
              exact ⟨(by first | rfl | (simp [IntKind.wrap_u32]; done)), HS.out⟩
            · replace H := if_no c3187 H
              have c3187b0 : ((Int.tmod t3179 4) == 0) = false := beq_eq_false_iff_ne.mpr c3187
              have c3187b1 : ((Int.tmod t3179 4) != 0) = true := bne_iff_ne.mpr c3187
              clear c3187
              go_wp2_with fail
              obtain ⟨t3188, HA3189, H⟩ := bind_some H
              refine (ground_Ground_Meter.calls t3183.2.2 t3183.2.1 a2665 a2666 a2667 a2668 g2655 g2657 A2660 l2659.length n2662 t3188 _ ⟨HS.out.begin⟩ HA3189).mono ?_
              rintro e_ w3190 ⟨rfl, hS⟩
              replace HS : Aside0 (Sep FF w [b7 g2655 g2657 a2665 a2666 a2667 a2668, b6 g2657 A2660 l2659.length n2662 t3183.2.1, r5 A2660 l2659.length n2662 t3183.2.2, b15 g3116 a2673 a2674 a2675 a2676 a2677 a2678 a2679 a2680 a2681 a2682] w3190) := ⟨HS.out.call hS⟩
              clear hS
              by_cases c3191 : (IntKind.u64.wrap (t3188 - t3119)) > 24
              · replace H := if_yes c3191 H
                have c3191b0 : decide (24 < (IntKind.u64.wrap (t3188 - t3119))) = true := decide_eq_true c3191
                clear c3191
                replace HS : Aside0 (Sep FF w [b7 g2655 g2657 a2665 a2666 a2667 a2668, b6 g2657 A2660 l2659.length n2662 t3183.2.1, r5 A2660 l2659.length n2662 t3183.2.2] w3190) := ⟨HS.out.sub (.cons_cons _ (.cons_cons _ (.cons_cons _ (.cons _ .slnil))))⟩
                go_wp2_with fail
                go_ret2
                rw [← some_eq H]
                exact ⟨(by first | rfl | (simp [IntKind.wrap_u32]; done)), HS.out⟩
              · replace H := if_no c3191 H
                have c3191b0 : decide (24 < (IntKind.u64.wrap (t3188 - t3119))) = false := decide_eq_false c3191
                clear c3191
                go_wp2_with fail
                refine start_ (n := 11) (S := (fun w' => w'.cell? ⟨g3116, 1, none⟩ = some (.int .i64 a2674))) (ds := []) #[false, false, false, false, false, false, false, false, false, false, false] (by kernel_rfl) rfl rfl (blk_cellv ((HS.out.drew).at3) 1 rfl) (fun hHeld => ?_)
                have HS_ := Aside0.mk HS.out.drew
                clear HS
                generalize World.drew _ = w3193 at HS_ hHeld ⊢
                have HS := HS_
                clear HS_
                refine pure_ (i := 0) (N := some 105) (v := ?_) (a' := ?_) #[true, false, false, false, false, false, false, false, false, false, false] rfl rfl (by kernel_rfl) (fun _ _ _ h => h) (Or.inl ⟨by rfl, ?_⟩) ?_ ?_
                rotate_left
                · intro w'
                  go_simp
                  with_reducible rfl
                rotate_left
                · simp only [Act.put, List.setIfInBounds_toArray, List.set_cons_zero, List.set_cons_succ, i64_w, i32_w]
                  rfl
                refine pure_ (i := 1) (N := some 106) (v := ?_) (a' := ?_) #[true, true, false, false, false, false, false, false, false, false, false] rfl rfl (by kernel_rfl) (fun _ _ _ h => h) (Or.inl ⟨by rfl, ?_⟩) ?_ ?_
                rotate_left
                · intro w'
                  go_simp
                  with_reducible rfl
                rotate_left
                · simp only [Act.put, List.setIfInBounds_toArray, List.set_cons_zero, List.set_cons_succ, i64_w, i32_w]
                  rfl
                refine pure_ (i := 4) (N := some 109) (v := ?_) (a' := ?_) #[true, true, false, false, true, false, false, false, false, false, false] rfl rfl (by kernel_rfl) (fun _ _ _ h => h) (Or.inl ⟨by rfl, ?_⟩) ?_ ?_
                rotate_left
                · intro w'
                  go_simp
                  with_reducible rfl
                rotate_left
                · simp only [Act.put, List.setIfInBounds_toArray, List.set_cons_zero, List.set_cons_succ, i64_w, i32_w]
                  rfl
                refine pure_ (i := 5) (N := some 110) (v := ?_) (a' := ?_) #[true, true, false, false, true, true, false, false, false, false, false] rfl rfl (by kernel_rfl) (fun _ _ _ h => h) (Or.inl ⟨by rfl, ?_⟩) ?_ ?_
                rotate_left
                · intro w'
                  go_simp
                  with_reducible rfl
                rotate_left
                · simp only [Act.put, List.setIfInBounds_toArray, List.set_cons_zero, List.set_cons_succ, i64_w, i32_w]
                  rfl
                refine take_ (i := 2) (N := some 107) (v := ?_) (a' := ?_) #[true, true, true, false, true, true, false, false, false, false, false] rfl rfl (by kernel_rfl) (fun _ _ _ h => h) (Or.inl ⟨by rfl, ?_⟩) hHeld ?_ ?_
                rotate_left
                · rintro w' hS'
                  have s0 := hS'
                  go_simp
                  with_reducible rfl
                rotate_left
                · simp only [Act.put, List.setIfInBounds_toArray, List.set_cons_zero, List.set_cons_succ, i64_w, i32_w]
                  rfl
                refine take_ (i := 6) (N := some 111) (v := ?_) (a' := ?_) #[true, true, true, false, true, true, true, false, false, false, false] rfl rfl (by kernel_rfl) (fun _ _ _ h => h) (Or.inl ⟨by rfl, ?_⟩) hHeld ?_ ?_
                rotate_left
                · rintro w' hS'
                  have s0 := hS'
                  go_simp
                  with_reducible rfl
                rotate_left
                · simp only [Act.put, List.setIfInBounds_toArray, List.set_cons_zero, List.set_cons_succ, i64_w, i32_w]
                  rfl
                refine one_ (i := 3) (N := some 108) #[true, true, true, true, true, true, true, false, false, false, false] rfl rfl (by kernel_rfl) (by decide) (fun K hK => ?_)
                obtain ⟨t3247, HA3248, H⟩ := bind_some H
                refine goes_ Try.func95 (by kernel_rfl) rfl #[.slice A2670 l2669.length n2671, .int .i64 a2674] (by rfl) rfl rfl (by (try simp only [List.map_toArray, List.map_cons, List.map_nil]); first | done | rfl) ?_
                refine (quitrentref08_Front.calls _ l2669 a2674 A2670 n2671 t3247 _ ⟨Rd.pass (l := []) (by decide) (fun _ _ _ _ h => h) HR2672.out HS.out⟩ ⟨Sep.start _⟩ HA3248).mono ?_
                rintro e_ w3249 ⟨A3251, m3252, n3253, rfl, hS⟩
                replace HS : Aside0 (Sep FF w [r13 A3251 m3252 n3253 t3247, b7 g2655 g2657 a2665 a2666 a2667 a2668, b6 g2657 A2660 l2659.length n2662 t3183.2.1, r5 A2660 l2659.length n2662 t3183.2.2, b15 g3116 a2673 a2674 a2675 a2676 a2677 a2678 a2679 a2680 a2681 a2682] w3249) := ⟨HS.out.call hS⟩
                clear hS
                obtain rfl := (row_len (HS.out.at0)).symm
                refine ⟨_, rfl, ?_⟩
                refine hK.out _ _ (blk_cellv (HS.out.at4) 1 rfl) (fun hHeld => ?_)
                clear hK K
                refine norm_ (a' := ?_) ?_ ?_
                rotate_left
                · show Act.put _ (some 108) _ = _
                  simp only [Act.put, List.setIfInBounds_toArray, List.set_cons_zero, List.set_cons_succ, i64_w, i32_w]
                  rfl
                refine one_ (i := 7) (N := some 112) #[true, true, true, true, true, true, true, true, false, false, false] rfl rfl (by kernel_rfl) (by decide) (fun K hK => ?_)
                replace HS : Aside0 (Sep FF w [r5 A2660 l2659.length n2662 t3183.2.2, r13 A3251 t3247.length n3253 t3247, b7 g2655 g2657 a2665 a2666 a2667 a2668, b6 g2657 A2660 l2659.length n2662 t3183.2.1, b15 g3116 a2673 a2674 a2675 a2676 a2677 a2678 a2679 a2680 a2681 a2682] w3249) := ⟨HS.out.front 3 (by simp)⟩
                replace HS : Aside0 (Sep FF w [b6 g2657 A2660 l2659.length n2662 t3183.2.1, r5 A2660 l2659.length n2662 t3183.2.2, r13 A3251 t3247.length n3253 t3247, b7 g2655 g2657 a2665 a2666 a2667 a2668, b15 g3116 a2673 a2674 a2675 a2676 a2677 a2678 a2679 a2680 a2681 a2682] w3249) := ⟨HS.out.front 3 (by simp)⟩
                replace HS : Aside0 (Sep FF w [b7 g2655 g2657 a2665 a2666 a2667 a2668, b6 g2657 A2660 l2659.length n2662 t3183.2.1, r5 A2660 l2659.length n2662 t3183.2.2, r13 A3251 t3247.length n3253 t3247, b15 g3116 a2673 a2674 a2675 a2676 a2677 a2678 a2679 a2680 a2681 a2682] w3249) := ⟨HS.out.front 3 (by simp)⟩
                obtain ⟨t3255, HA3256, H⟩ := bind_some H
                refine goes_ Try.func50 (by kernel_rfl) rfl #[.pointer (some ⟨g2655, 0, none⟩), .int .i64 a2674, .int .i64 0] (by rfl) rfl rfl (by (try simp only [List.map_toArray, List.map_cons, List.map_nil]); first | done | rfl) ?_
                refine (ground_Ground_SeeWord.calls t3183.2.2 t3183.2.1 a2665 a2666 a2667 a2668 a2674 0 g2655 g2657 A2660 l2659.length n2662 t3255 _ ⟨HS.out.begin⟩ HA3256).mono ?_
                rintro e_ w3257 ⟨rfl, hS⟩
                replace HS : Aside0 (Sep FF w [b7 g2655 g2657 a2665 a2666 a2667 a2668, b6 g2657 A2660 l2659.length n2662 t3183.2.1, r5 A2660 l2659.length n2662 t3183.2.2, r13 A3251 t3247.length n3253 t3247, b15 g3116 a2673 a2674 a2675 a2676 a2677 a2678 a2679 a2680 a2681 a2682] w3257) := ⟨HS.out.call hS⟩
                clear hS
                refine ⟨_, rfl, ?_⟩
                refine hK.out _ _ (blk_cellv (HS.out.at4) 1 rfl) (fun hHeld => ?_)
                clear hK K
                refine norm_ (a' := ?_) ?_ ?_
                rotate_left
                · show Act.put _ (some 112) _ = _
                  simp only [Act.put, List.setIfInBounds_toArray, List.set_cons_zero, List.set_cons_succ, i64_w, i32_w]
                  rfl
                refine pure_ (i := 8) (N := some 113) (v := ?_) (a' := ?_) #[true, true, true, true, true, true, true, true, true, false, false] rfl rfl (by kernel_rfl) (fun _ _ _ h => h) (Or.inl ⟨by rfl, ?_⟩) ?_ ?_
                rotate_left
                · intro w'
                  go_simp
                  with_reducible rfl
                rotate_left
                · simp only [Act.put, List.setIfInBounds_toArray, List.set_cons_zero, List.set_cons_succ, i64_w, i32_w]
                  rfl
                refine pure_ (i := 9) (N := some 6) (v := ?_) (a' := ?_) #[true, true, true, true, true, true, true, true, true, true, false] rfl rfl (by kernel_rfl) (fun _ _ _ h => h) (Or.inl ⟨by rfl, ?_⟩) ?_ ?_
                rotate_left
                · intro w'
                  go_simp
                  with_reducible rfl
                rotate_left
                · simp only [Act.put, List.setIfInBounds_toArray, List.set_cons_zero, List.set_cons_succ, i64_w, i32_w]
                  rfl
                refine pure_ (i := 10) (N := some 7) (v := ?_) (a' := ?_) #[true, true, true, true, true, true, true, true, true, true, true] rfl rfl (by kernel_rfl) (fun _ _ _ h => h) (Or.inl ⟨by rfl, ?_⟩) ?_ ?_
                rotate_left
                · intro w'
                  go_simp
                  with_reducible rfl
                rotate_left
                · simp only [Act.put, List.setIfInBounds_toArray, List.set_cons_zero, List.set_cons_succ, i64_w, i32_w]
                  rfl
                refine done_ (by kernel_rfl) ?_
                replace HS : Aside0 (Sep FF w [b7 g2655 g2657 a2665 a2666 a2667 a2668, b6 g2657 A2660 l2659.length n2662 t3183.2.1, r5 A2660 l2659.length n2662 t3183.2.2, r13 A3251 t3247.length n3253 t3247] w3257) := ⟨HS.out.sub (.cons_cons _ (.cons_cons _ (.cons_cons _ (.cons_cons _ (.cons _ .slnil)))))⟩
                go_wp2_with fail
                go_ret2
                rw [← some_eq H]
                exact ⟨A3251, t3247.length, n3253, (by first | rfl | (simp [IntKind.wrap_u32]; done)), HS.out⟩
          · replace H := if_no c3186 H
            have c3186b0 : t3183.1 = false := by simpa using c3186
            have c3186b1 : (!t3183.1) = true := by rw [c3186b0]; rfl
            clear c3186
            by_cases c3263 : (Int.tmod t3179 4) = 0
            · replace H := if_yes c3263 H
              have c3263b0 : ((Int.tmod t3179 4) == 0) = true := beq_iff_eq.mpr c3263
              have c3263b1 : ((Int.tmod t3179 4) != 0) = false := bne_eq_false_iff_eq.mpr c3263
              clear c3263
              go_wp2_with fail
              obtain ⟨t3188, HA3264, H⟩ := bind_some H
              refine (ground_Ground_Meter.calls t3183.2.2 t3183.2.1 a2665 a2666 a2667 a2668 g2655 g2657 A2660 l2659.length n2662 t3188 _ ⟨HS.out.begin⟩ HA3264).mono ?_
              rintro e_ w3265 ⟨rfl, hS⟩
              replace HS : Aside0 (Sep FF w [b7 g2655 g2657 a2665 a2666 a2667 a2668, b6 g2657 A2660 l2659.length n2662 t3183.2.1, r5 A2660 l2659.length n2662 t3183.2.2, b15 g3116 a2673 a2674 a2675 a2676 a2677 a2678 a2679 a2680 a2681 a2682] w3265) := ⟨HS.out.call hS⟩
              clear hS
              by_cases c3266 : (IntKind.u64.wrap (t3188 - t3119)) > 24
              · replace H := if_yes c3266 H
                have c3266b0 : decide (24 < (IntKind.u64.wrap (t3188 - t3119))) = true := decide_eq_true c3266
                clear c3266
                replace HS : Aside0 (Sep FF w [b7 g2655 g2657 a2665 a2666 a2667 a2668, b6 g2657 A2660 l2659.length n2662 t3183.2.1, r5 A2660 l2659.length n2662 t3183.2.2] w3265) := ⟨HS.out.sub (.cons_cons _ (.cons_cons _ (.cons_cons _ (.cons _ .slnil))))⟩
                go_wp2_with fail
                go_ret2
                rw [← some_eq H]
                exact ⟨(by first | rfl | (simp [IntKind.wrap_u32]; done)), HS.out⟩
              · replace H := if_no c3266 H
                have c3266b0 : decide (24 < (IntKind.u64.wrap (t3188 - t3119))) = false := decide_eq_false c3266
                clear c3266
                replace HS : Aside0 (Sep FF w [b7 g2655 g2657 a2665 a2666 a2667 a2668, b6 g2657 A2660 l2659.length n2662 t3183.2.1, r5 A2660 l2659.length n2662 t3183.2.2] w3265) := ⟨HS.out.sub (.cons_cons _ (.cons_cons _ (.cons_cons _ (.cons _ .slnil))))⟩
                go_wp2_with fail
                go_ret2
                rw [← some_eq H]
                exact ⟨(by first | rfl | (simp [IntKind.wrap_u32]; done)), HS.out⟩
            · replace H := if_no c3263 H
              have c3263b0 : ((Int.tmod t3179 4) == 0) = false := beq_eq_false_iff_ne.mpr c3263
              have c3263b1 : ((Int.tmod t3179 4) != 0) = true := bne_iff_ne.mpr c3263
              clear c3263
              replace HS : Aside0 (Sep FF w [b7 g2655 g2657 a2665 a2666 a2667 a2668, b6 g2657 A2660 l2659.length n2662 t3183.2.1, r5 A2660 l2659.length n2662 t3183.2.2] w3185) := ⟨HS.out.sub (.cons_cons _ (.cons_cons _ (.cons_cons _ (.cons _ .slnil))))⟩
              go_wp2_with fail
              go_ret2
              rw [← some_eq H]
              exact ⟨(by first | rfl | (simp [IntKind.wrap_u32]; done)), HS.out⟩
        · replace H := if_no c3178 H
          have c3178b0 : decide (a2674 < t3175.1) = false := decide_eq_false c3178
          clear c3178
          try simp only [c3178b0, Bool.not_true, Bool.not_false]
          refine pure_ (i := 12) (N := some 81) (v := undef) (a' := ?_) #[true, true, true, true, true, true, true, true, true, true, true, true, true, false, false, false, false, false, false, false] rfl rfl (by kernel_rfl) (fun _ _ _ h => h) (Or.inr ⟨by rfl, rfl⟩) ?_ ?_
          rotate_left
          · simp only [Act.put, List.setIfInBounds_toArray, List.set_cons_zero, List.set_cons_succ, i64_w, i32_w]
            rfl
          try simp only [c3178b0, Bool.not_true, Bool.not_false]
          refine pure_ (i := 13) (N := some 82) (v := undef) (a' := ?_) #[true, true, true, true, true, true, true, true, true, true, true, true, true, true, false, false, false, false, false, false] rfl rfl (by kernel_rfl) (fun _ _ _ h => h) (Or.inr ⟨by rfl, rfl⟩) ?_ ?_
          rotate_left
          · simp only [Act.put, List.setIfInBounds_toArray, List.set_cons_zero, List.set_cons_succ, i64_w, i32_w]
            rfl
          try simp only [c3178b0, Bool.not_true, Bool.not_false]
          refine pure_ (i := 14) (N := some 83) (v := undef) (a' := ?_) #[true, true, true, true, true, true, true, true, true, true, true, true, true, true, true, false, false, false, false, false] rfl rfl (by kernel_rfl) (fun _ _ _ h => h) (Or.inr ⟨by rfl, rfl⟩) ?_ ?_
          rotate_left
          · simp only [Act.put, List.setIfInBounds_toArray, List.set_cons_zero, List.set_cons_succ, i64_w, i32_w]
            rfl
          try simp only [c3178b0, Bool.not_true, Bool.not_false]
          refine pure_ (i := 15) (N := some 84) (v := undef) (a' := ?_) #[true, true, true, true, true, true, true, true, true, true, true, true, true, true, true, true, false, false, false, false] rfl rfl (by kernel_rfl) (fun _ _ _ h => h) (Or.inr ⟨by rfl, rfl⟩) ?_ ?_
          rotate_left
          · simp only [Act.put, List.setIfInBounds_toArray, List.set_cons_zero, List.set_cons_succ, i64_w, i32_w]
            rfl
          try simp only [c3178b0, Bool.not_true, Bool.not_false]
          refine pure_ (i := 16) (N := some 85) (v := undef) (a' := ?_) #[true, true, true, true, true, true, true, true, true, true, true, true, true, true, true, true, true, false, false, false] rfl rfl (by kernel_rfl) (fun _ _ _ h => h) (Or.inr ⟨by rfl, rfl⟩) ?_ ?_
          rotate_left
          · simp only [Act.put, List.setIfInBounds_toArray, List.set_cons_zero, List.set_cons_succ, i64_w, i32_w]
            rfl
          try simp only [c3178b0, Bool.not_true, Bool.not_false]
          refine pure_ (i := 17) (N := some 86) (v := undef) (a' := ?_) #[true, true, true, true, true, true, true, true, true, true, true, true, true, true, true, true, true, true, false, false] rfl rfl (by kernel_rfl) (fun _ _ _ h => h) (Or.inr ⟨by rfl, rfl⟩) ?_ ?_
          rotate_left
          · simp only [Act.put, List.setIfInBounds_toArray, List.set_cons_zero, List.set_cons_succ, i64_w, i32_w]
            rfl
          refine pure_ (i := 18) (N := some 87) (v := ?_) (a' := ?_) #[true, true, true, true, true, true, true, true, true, true, true, true, true, true, true, true, true, true, true, false] rfl rfl (by kernel_rfl) (fun _ _ _ h => h) (Or.inl ⟨by rfl, ?_⟩) ?_ ?_
          rotate_left
          · intro w'
            go_simp
            with_reducible rfl
          rotate_left
          · simp only [Act.put, List.setIfInBounds_toArray, List.set_cons_zero, List.set_cons_succ, i64_w, i32_w]
            rfl
          refine pure_ (i := 19) (N := some 11) (v := ?_) (a' := ?_) #[true, true, true, true, true, true, true, true, true, true, true, true, true, true, true, true, true, true, true, true] rfl rfl (by kernel_rfl) (fun _ _ _ h => h) (Or.inl ⟨by rfl, ?_⟩) ?_ ?_
          rotate_left
          · intro w'
            go_simp
            with_reducible rfl
          rotate_left
          · simp only [Act.put, List.setIfInBounds_toArray, List.set_cons_zero, List.set_cons_succ, i64_w, i32_w]
            rfl
          refine done_ (by kernel_rfl) ?_
          have hc3267 : w3177.cell? ⟨g3116, 1, none⟩ = some (.int .i64 a2674) := blk_cellv (HS.out.at3) 1 rfl
          go_wp2_with fail
          clear hc3267
          obtain ⟨t3183, HA3268, H⟩ := bind_some H
          refine (pool_Give.calls l2659 a2664 a2665 a2666 a2667 a2668 a2674 g2655 g2657 A2660 l2659.length n2662 t3183 _ ⟨HS.out.begin⟩ HA3268).mono ?_
          rintro e_ w3269 ⟨rfl, hS⟩
          replace HS : Aside0 (Sep FF w [b7 g2655 g2657 a2665 a2666 a2667 a2668, b6 g2657 A2660 l2659.length n2662 t3183.2.1, r5 A2660 l2659.length n2662 t3183.2.2, b15 g3116 a2673 a2674 a2675 a2676 a2677 a2678 a2679 a2680 a2681 a2682] w3269) := ⟨HS.out.call hS⟩
          clear hS
          by_cases c3270 : t3183.1 = true
          · replace H := if_yes c3270 H
            have c3270b0 : t3183.1 = true := c3270
            have c3270b1 : (!t3183.1) = false := by rw [c3270b0]; rfl
            clear c3270
            replace HS : Aside0 (Sep FF w [b7 g2655 g2657 a2665 a2666 a2667 a2668, b6 g2657 A2660 l2659.length n2662 t3183.2.1, r5 A2660 l2659.length n2662 t3183.2.2] w3269) := ⟨HS.out.sub (.cons_cons _ (.cons_cons _ (.cons_cons _ (.cons _ .slnil))))⟩
            go_wp2_with fail
            go_ret2
            rw [← some_eq H]
            exact ⟨(by first | rfl | (simp [IntKind.wrap_u32]; done)), HS.out⟩
          · replace H := if_no c3270 H
            have c3270b0 : t3183.1 = false := by simpa using c3270
            have c3270b1 : (!t3183.1) = true := by rw [c3270b0]; rfl
            clear c3270
            go_wp2_with fail
            obtain ⟨t3188, HA3271, H⟩ := bind_some H
            refine (ground_Ground_Meter.calls t3183.2.2 t3183.2.1 a2665 a2666 a2667 a2668 g2655 g2657 A2660 l2659.length n2662 t3188 _ ⟨HS.out.begin⟩ HA3271).mono ?_
            rintro e_ w3272 ⟨rfl, hS⟩
            replace HS : Aside0 (Sep FF w [b7 g2655 g2657 a2665 a2666 a2667 a2668, b6 g2657 A2660 l2659.length n2662 t3183.2.1, r5 A2660 l2659.length n2662 t3183.2.2, b15 g3116 a2673 a2674 a2675 a2676 a2677 a2678 a2679 a2680 a2681 a2682] w3272) := ⟨HS.out.call hS⟩
            clear hS
            by_cases c3273 : (IntKind.u64.wrap (t3188 - t3119)) > 24
            · replace H := if_yes c3273 H
              have c3273b0 : decide (24 < (IntKind.u64.wrap (t3188 - t3119))) = true := decide_eq_true c3273
              clear c3273
              replace HS : Aside0 (Sep FF w [b7 g2655 g2657 a2665 a2666 a2667 a2668, b6 g2657 A2660 l2659.length n2662 t3183.2.1, r5 A2660 l2659.length n2662 t3183.2.2] w3272) := ⟨HS.out.sub (.cons_cons _ (.cons_cons _ (.cons_cons _ (.cons _ .slnil))))⟩
              go_wp2_with fail
              go_ret2
              rw [← some_eq H]
              exact ⟨(by first | rfl | (simp [IntKind.wrap_u32]; done)), HS.out⟩
            · replace H := if_no c3273 H
              have c3273b0 : decide (24 < (IntKind.u64.wrap (t3188 - t3119))) = false := decide_eq_false c3273
              clear c3273
              replace HS : Aside0 (Sep FF w [b7 g2655 g2657 a2665 a2666 a2667 a2668, b6 g2657 A2660 l2659.length n2662 t3183.2.1, r5 A2660 l2659.length n2662 t3183.2.2] w3272) := ⟨HS.out.sub (.cons_cons _ (.cons_cons _ (.cons_cons _ (.cons _ .slnil))))⟩
              go_wp2_with fail
              go_ret2
              rw [← some_eq H]
              exact ⟨(by first | rfl | (simp [IntKind.wrap_u32]; done)), HS.out⟩
      · replace H := if_no c3174 H
        have c3174b0 : decide (0 ≤ a2674) = false := decide_eq_false c3174
        clear c3174
        try simp only [c3174b0, Bool.not_true, Bool.not_false]
        refine pure_ (i := 4) (N := some 73) (v := undef) (a' := ?_) #[true, true, true, true, true, false, false, false, false, false, false, false, false, false, false, false, false, false, false, false] rfl rfl (by kernel_rfl) (fun _ _ _ h => h) (Or.inr ⟨by rfl, rfl⟩) ?_ ?_
        rotate_left
        · simp only [Act.put, List.setIfInBounds_toArray, List.set_cons_zero, List.set_cons_succ, i64_w, i32_w]
          rfl
        try simp only [c3174b0, Bool.not_true, Bool.not_false]
        refine pure_ (i := 5) (N := some 74) (v := undef) (a' := ?_) #[true, true, true, true, true, true, false, false, false, false, false, false, false, false, false, false, false, false, false, false] rfl rfl (by kernel_rfl) (fun _ _ _ h => h) (Or.inr ⟨by rfl, rfl⟩) ?_ ?_
        rotate_left
        · simp only [Act.put, List.setIfInBounds_toArray, List.set_cons_zero, List.set_cons_succ, i64_w, i32_w]
          rfl
        try simp only [c3174b0, Bool.not_true, Bool.not_false]
        refine pure_ (i := 6) (N := some 75) (v := undef) (a' := ?_) #[true, true, true, true, true, true, true, false, false, false, false, false, false, false, false, false, false, false, false, false] rfl rfl (by kernel_rfl) (fun _ _ _ h => h) (Or.inr ⟨by rfl, rfl⟩) ?_ ?_
        rotate_left
        · simp only [Act.put, List.setIfInBounds_toArray, List.set_cons_zero, List.set_cons_succ, i64_w, i32_w]
          rfl
        try simp only [c3174b0, Bool.not_true, Bool.not_false]
        refine pure_ (i := 7) (N := some 76) (v := undef) (a' := ?_) #[true, true, true, true, true, true, true, true, false, false, false, false, false, false, false, false, false, false, false, false] rfl rfl (by kernel_rfl) (fun _ _ _ h => h) (Or.inr ⟨by rfl, rfl⟩) ?_ ?_
        rotate_left
        · simp only [Act.put, List.setIfInBounds_toArray, List.set_cons_zero, List.set_cons_succ, i64_w, i32_w]
          rfl
        try simp only [c3174b0, Bool.not_true, Bool.not_false]
        refine pure_ (i := 8) (N := some 77) (v := undef) (a' := ?_) #[true, true, true, true, true, true, true, true, true, false, false, false, false, false, false, false, false, false, false, false] rfl rfl (by kernel_rfl) (fun _ _ _ h => h) (Or.inr ⟨by rfl, rfl⟩) ?_ ?_
        rotate_left
        · simp only [Act.put, List.setIfInBounds_toArray, List.set_cons_zero, List.set_cons_succ, i64_w, i32_w]
          rfl
        try simp only [c3174b0, Bool.not_true, Bool.not_false]
        refine pure_ (i := 9) (N := some 78) (v := undef) (a' := ?_) #[true, true, true, true, true, true, true, true, true, true, false, false, false, false, false, false, false, false, false, false] rfl rfl (by kernel_rfl) (fun _ _ _ h => h) (Or.inr ⟨by rfl, rfl⟩) ?_ ?_
        rotate_left
        · simp only [Act.put, List.setIfInBounds_toArray, List.set_cons_zero, List.set_cons_succ, i64_w, i32_w]
          rfl
        refine pure_ (i := 10) (N := some 79) (v := ?_) (a' := ?_) #[true, true, true, true, true, true, true, true, true, true, true, false, false, false, false, false, false, false, false, false] rfl rfl (by kernel_rfl) (fun _ _ _ h => h) (Or.inl ⟨by rfl, ?_⟩) ?_ ?_
        rotate_left
        · intro w'
          go_simp
          with_reducible rfl
        rotate_left
        · simp only [Act.put, List.setIfInBounds_toArray, List.set_cons_zero, List.set_cons_succ, i64_w, i32_w]
          rfl
        refine pure_ (i := 11) (N := some 80) (v := ?_) (a' := ?_) #[true, true, true, true, true, true, true, true, true, true, true, true, false, false, false, false, false, false, false, false] rfl rfl (by kernel_rfl) (fun _ _ _ h => h) (Or.inl ⟨by rfl, ?_⟩) ?_ ?_
        rotate_left
        · intro w'
          go_simp
          with_reducible rfl
        rotate_left
        · simp only [Act.put, List.setIfInBounds_toArray, List.set_cons_zero, List.set_cons_succ, i64_w, i32_w]
          rfl
        refine pure_ (i := 12) (N := some 81) (v := undef) (a' := ?_) #[true, true, true, true, true, true, true, true, true, true, true, true, true, false, false, false, false, false, false, false] rfl rfl (by kernel_rfl) (fun _ _ _ h => h) (Or.inr ⟨by rfl, rfl⟩) ?_ ?_
        rotate_left
        · simp only [Act.put, List.setIfInBounds_toArray, List.set_cons_zero, List.set_cons_succ, i64_w, i32_w]
          rfl
        refine pure_ (i := 13) (N := some 82) (v := undef) (a' := ?_) #[true, true, true, true, true, true, true, true, true, true, true, true, true, true, false, false, false, false, false, false] rfl rfl (by kernel_rfl) (fun _ _ _ h => h) (Or.inr ⟨by rfl, rfl⟩) ?_ ?_
        rotate_left
        · simp only [Act.put, List.setIfInBounds_toArray, List.set_cons_zero, List.set_cons_succ, i64_w, i32_w]
          rfl
        refine pure_ (i := 14) (N := some 83) (v := undef) (a' := ?_) #[true, true, true, true, true, true, true, true, true, true, true, true, true, true, true, false, false, false, false, false] rfl rfl (by kernel_rfl) (fun _ _ _ h => h) (Or.inr ⟨by rfl, rfl⟩) ?_ ?_
        rotate_left
        · simp only [Act.put, List.setIfInBounds_toArray, List.set_cons_zero, List.set_cons_succ, i64_w, i32_w]
          rfl
        refine pure_ (i := 15) (N := some 84) (v := undef) (a' := ?_) #[true, true, true, true, true, true, true, true, true, true, true, true, true, true, true, true, false, false, false, false] rfl rfl (by kernel_rfl) (fun _ _ _ h => h) (Or.inr ⟨by rfl, rfl⟩) ?_ ?_
        rotate_left
        · simp only [Act.put, List.setIfInBounds_toArray, List.set_cons_zero, List.set_cons_succ, i64_w, i32_w]
          rfl
        refine pure_ (i := 16) (N := some 85) (v := undef) (a' := ?_) #[true, true, true, true, true, true, true, true, true, true, true, true, true, true, true, true, true, false, false, false] rfl rfl (by kernel_rfl) (fun _ _ _ h => h) (Or.inr ⟨by rfl, rfl⟩) ?_ ?_
        rotate_left
        · simp only [Act.put, List.setIfInBounds_toArray, List.set_cons_zero, List.set_cons_succ, i64_w, i32_w]
          rfl
        refine pure_ (i := 17) (N := some 86) (v := undef) (a' := ?_) #[true, true, true, true, true, true, true, true, true, true, true, true, true, true, true, true, true, true, false, false] rfl rfl (by kernel_rfl) (fun _ _ _ h => h) (Or.inr ⟨by rfl, rfl⟩) ?_ ?_
        rotate_left
        · simp only [Act.put, List.setIfInBounds_toArray, List.set_cons_zero, List.set_cons_succ, i64_w, i32_w]
          rfl
        refine pure_ (i := 18) (N := some 87) (v := ?_) (a' := ?_) #[true, true, true, true, true, true, true, true, true, true, true, true, true, true, true, true, true, true, true, false] rfl rfl (by kernel_rfl) (fun _ _ _ h => h) (Or.inl ⟨by rfl, ?_⟩) ?_ ?_
        rotate_left
        · intro w'
          go_simp
          with_reducible rfl
        rotate_left
        · simp only [Act.put, List.setIfInBounds_toArray, List.set_cons_zero, List.set_cons_succ, i64_w, i32_w]
          rfl
        refine pure_ (i := 19) (N := some 11) (v := ?_) (a' := ?_) #[true, true, true, true, true, true, true, true, true, true, true, true, true, true, true, true, true, true, true, true] rfl rfl (by kernel_rfl) (fun _ _ _ h => h) (Or.inl ⟨by rfl, ?_⟩) ?_ ?_
        rotate_left
        · intro w'
          go_simp
          with_reducible rfl
        rotate_left
        · simp only [Act.put, List.setIfInBounds_toArray, List.set_cons_zero, List.set_cons_succ, i64_w, i32_w]
          rfl
        refine done_ (by kernel_rfl) ?_
        have hc3274 : w3173.cell? ⟨g3116, 1, none⟩ = some (.int .i64 a2674) := blk_cellv (HS.out.at3) 1 rfl
        go_wp2_with fail
        clear hc3274
        obtain ⟨t3183, HA3275, H⟩ := bind_some H
        refine (pool_Give.calls l2659 a2664 a2665 a2666 a2667 a2668 a2674 g2655 g2657 A2660 l2659.length n2662 t3183 _ ⟨HS.out.begin⟩ HA3275).mono ?_
        rintro e_ w3276 ⟨rfl, hS⟩
        replace HS : Aside0 (Sep FF w [b7 g2655 g2657 a2665 a2666 a2667 a2668, b6 g2657 A2660 l2659.length n2662 t3183.2.1, r5 A2660 l2659.length n2662 t3183.2.2, b15 g3116 a2673 a2674 a2675 a2676 a2677 a2678 a2679 a2680 a2681 a2682] w3276) := ⟨HS.out.call hS⟩
        clear hS
        by_cases c3277 : t3183.1 = true
        · replace H := if_yes c3277 H
          have c3277b0 : t3183.1 = true := c3277
          have c3277b1 : (!t3183.1) = false := by rw [c3277b0]; rfl
          clear c3277
          replace HS : Aside0 (Sep FF w [b7 g2655 g2657 a2665 a2666 a2667 a2668, b6 g2657 A2660 l2659.length n2662 t3183.2.1, r5 A2660 l2659.length n2662 t3183.2.2] w3276) := ⟨HS.out.sub (.cons_cons _ (.cons_cons _ (.cons_cons _ (.cons _ .slnil))))⟩
          go_wp2_with fail
          go_ret2
          rw [← some_eq H]
          exact ⟨(by first | rfl | (simp [IntKind.wrap_u32]; done)), HS.out⟩
        · replace H := if_no c3277 H
          have c3277b0 : t3183.1 = false := by simpa using c3277
          have c3277b1 : (!t3183.1) = true := by rw [c3277b0]; rfl
          clear c3277
          go_wp2_with fail
          obtain ⟨t3188, HA3278, H⟩ := bind_some H
          refine (ground_Ground_Meter.calls t3183.2.2 t3183.2.1 a2665 a2666 a2667 a2668 g2655 g2657 A2660 l2659.length n2662 t3188 _ ⟨HS.out.begin⟩ HA3278).mono ?_
          rintro e_ w3279 ⟨rfl, hS⟩
          replace HS : Aside0 (Sep FF w [b7 g2655 g2657 a2665 a2666 a2667 a2668, b6 g2657 A2660 l2659.length n2662 t3183.2.1, r5 A2660 l2659.length n2662 t3183.2.2, b15 g3116 a2673 a2674 a2675 a2676 a2677 a2678 a2679 a2680 a2681 a2682] w3279) := ⟨HS.out.call hS⟩
          clear hS
          by_cases c3280 : (IntKind.u64.wrap (t3188 - t3119)) > 24
          · replace H := if_yes c3280 H
            have c3280b0 : decide (24 < (IntKind.u64.wrap (t3188 - t3119))) = true := decide_eq_true c3280
            clear c3280
            replace HS : Aside0 (Sep FF w [b7 g2655 g2657 a2665 a2666 a2667 a2668, b6 g2657 A2660 l2659.length n2662 t3183.2.1, r5 A2660 l2659.length n2662 t3183.2.2] w3279) := ⟨HS.out.sub (.cons_cons _ (.cons_cons _ (.cons_cons _ (.cons _ .slnil))))⟩
            go_wp2_with fail
            go_ret2
            rw [← some_eq H]
            exact ⟨(by first | rfl | (simp [IntKind.wrap_u32]; done)), HS.out⟩
          · replace H := if_no c3280 H
            have c3280b0 : decide (24 < (IntKind.u64.wrap (t3188 - t3119))) = false := decide_eq_false c3280
            clear c3280
            replace HS : Aside0 (Sep FF w [b7 g2655 g2657 a2665 a2666 a2667 a2668, b6 g2657 A2660 l2659.length n2662 t3183.2.1, r5 A2660 l2659.length n2662 t3183.2.2] w3279) := ⟨HS.out.sub (.cons_cons _ (.cons_cons _ (.cons_cons _ (.cons _ .slnil))))⟩
            go_wp2_with fail
            go_ret2
            rw [← some_eq H]
            exact ⟨(by first | rfl | (simp [IntKind.wrap_u32]; done)), HS.out⟩
    · replace H := if_no c3171 H
      have c3171b0 : (a2673 == 1) = false := beq_eq_false_iff_ne.mpr c3171
      have c3171b1 : (a2673 != 1) = true := bne_iff_ne.mpr c3171
      clear c3171
      have hc3122 : w3121.cell? ⟨g3116, 0, none⟩ = some (.int .u8 a2673) := blk_cellv (HS.out.at3) 0 rfl
      go_wp2_with fail
      clear hc3122
      obtain ⟨t3281, HA3282, H⟩ := bind_some H
      refine (pool_Len.calls l2659 a2664 a2665 a2666 a2667 a2668 g2655 g2657 A2660 l2659.length n2662 t3281 _ ⟨HS.out.begin⟩ HA3282).mono ?_
      rintro e_ w3283 ⟨rfl, hS⟩
      replace HS : Aside0 (Sep FF w [b7 g2655 g2657 a2665 a2666 a2667 a2668, b6 g2657 A2660 l2659.length n2662 t3281.2, r5 A2660 l2659.length n2662 l2659, b15 g3116 a2673 a2674 a2675 a2676 a2677 a2678 a2679 a2680 a2681 a2682] w3283) := ⟨HS.out.call hS⟩
      clear hS
      replace HS : Aside0 (Sep FF w [b7 g2655 g2657 a2665 a2666 a2667 a2668, b6 g2657 A2660 l2659.length n2662 t3281.2, r5 A2660 l2659.length n2662 l2659] w3283) := ⟨HS.out.sub (.cons_cons _ (.cons_cons _ (.cons_cons _ (.cons _ .slnil))))⟩
      go_wp2_with fail
      go_ret2
      rw [← some_eq H]
      exact ⟨(by first | rfl | (simp [IntKind.wrap_u32]; done)), HS.out⟩

set_option maxHeartbeats 30000000 in
set_option maxRecDepth 100000 in
theorem quitrentlaw10_PoolPlays.calls (k : Nat) (a1 : Int) (a2 : Int) (a3 : Int) (a4 : Int) (l5 : List (Int × Int × Int × Int × Int × Int × Int × Int × Int × Int)) (A6 : Option Addr) (n7 : Nat) (r : Bool) (w : World) (HR8 : Aside0 (Rd s14 (fps []) w A6 l5.length l5))  (HS : Aside0 (Sep (fps []) w [] w)) (H : Aside0 (quitrentlaw10_PoolPlays.f k a1 a2 a3 a4 l5 = some r)) :
    Calls Try.prog 16 #[.agg #[.int .i64 a1, .int .i64 a2, .int .i64 a3, .int .i64 a4], .slice A6 l5.length n7] w fun e w' => e = .returned (.bool r) ∧ Sep (fps []) w [] w' := by
  unfold quitrentlaw10_PoolPlays.f at H
  go_enter Try.func16, Try.ntmps16
  go_wp2_with (first | ((with_reducible refine gate_dst (N := 2) rfl ?_); refine box_on ?hg (N := 2) ?hd (cs := #[.int .i64 a1, .int .i64 a2, .int .i64 a3, .int .i64 a4]) (t := 49) ?hr ?_; (case hd => rfl); (case hg => rfl); (case hr => first | (go_simp; done) | (go_simp; rfl)); intro g9 hg w10 hbox hb; replace HS : Aside0 (Sep (fps []) w [b1 g9 a1 a2 a3 a4] w10) := ⟨HS.out.box hg hbox hb⟩; clear hg hbox hb; have hc12 : w10.cell? ⟨g9, 0, none⟩ = some (.int .i64 a1) := blk_cellv (HS.out.at0) 0 rfl; have hc13 : w10.cell? ⟨g9, 1, none⟩ = some (.int .i64 a2) := blk_cellv (HS.out.at0) 1 rfl; have hc14 : w10.cell? ⟨g9, 2, none⟩ = some (.int .i64 a3) := blk_cellv (HS.out.at0) 2 rfl; have hc15 : w10.cell? ⟨g9, 3, none⟩ = some (.int .i64 a4) := blk_cellv (HS.out.at0) 3 rfl))
  clear hc12 hc13 hc14 hc15
  obtain ⟨t804, HA805, H⟩ := bind_some H
  rcases t804 with t806 | (t807 | t808)
  · have H := sum_l H
    refine (ground_New.calls _ a1 a2 a3 a4 (.inl t806) _ ⟨Sep.start _⟩ HA805).mono ?_
    rintro e_ w809 ⟨rfl, hS⟩
    replace HS : Aside0 (Sep (fps []) w [b1 g9 a1 a2 a3 a4] w809) := ⟨HS.out.call hS⟩
    clear hS
    have hc810 : w809.cell? ⟨g9, 0, none⟩ = some (.int .i64 a1) := blk_cellv (HS.out.at0) 0 rfl
    have hc811 : w809.cell? ⟨g9, 1, none⟩ = some (.int .i64 a2) := blk_cellv (HS.out.at0) 1 rfl
    have hc812 : w809.cell? ⟨g9, 2, none⟩ = some (.int .i64 a3) := blk_cellv (HS.out.at0) 2 rfl
    have hc813 : w809.cell? ⟨g9, 3, none⟩ = some (.int .i64 a4) := blk_cellv (HS.out.at0) 3 rfl
    go_wp2_with fail
    clear hc810 hc811 hc812 hc813
    obtain ⟨t833, HA834, H⟩ := bind_some H
    refine (quitrentref03_May.calls a1 a2 a3 a4 t833 _ ⟨Sep.start _⟩ HA834).mono ?_
    rintro e_ w835 ⟨rfl, hS⟩
    replace HS : Aside0 (Sep (fps []) w [b1 g9 a1 a2 a3 a4] w835) := ⟨HS.out.call hS⟩
    clear hS
    by_cases c836 : t833 = true
    · replace H := if_yes c836 H
      have c836b0 : t833 = true := c836
      have c836b1 : (!t833) = false := by rw [c836b0]; rfl
      try rw [c836b1]
      clear c836
      have hc837 : w835.cell? ⟨g9, 0, none⟩ = some (.int .i64 a1) := blk_cellv (HS.out.at0) 0 rfl
      have hc838 : w835.cell? ⟨g9, 1, none⟩ = some (.int .i64 a2) := blk_cellv (HS.out.at0) 1 rfl
      have hc839 : w835.cell? ⟨g9, 2, none⟩ = some (.int .i64 a3) := blk_cellv (HS.out.at0) 2 rfl
      have hc840 : w835.cell? ⟨g9, 3, none⟩ = some (.int .i64 a4) := blk_cellv (HS.out.at0) 3 rfl
      go_wp2_with fail
      clear hc837 hc838 hc839 hc840
      obtain ⟨t853, HA854, H⟩ := bind_some H
      refine (quitrentref05_Little.calls a1 a2 a3 a4 t853 _ ⟨Sep.start _⟩ HA854).mono ?_
      rintro e_ w855 ⟨rfl, hS⟩
      replace HS : Aside0 (Sep (fps []) w [b1 g9 a1 a2 a3 a4] w855) := ⟨HS.out.call hS⟩
      clear hS
      by_cases c856 : t853 = true
      · replace H := if_yes c856 H
        have c856b0 : t853 = true := c856
        have c856b1 : (!t853) = false := by rw [c856b0]; rfl
        try rw [c856b1]
        clear c856
        by_cases c857 : (l5.length : Int) > 200
        · replace H := if_yes c857 H
          have c857b0 : decide (200 < (l5.length : Int)) = true := decide_eq_true c857
          have c857b1 : decide (200 < l5.length) = true := decide_eq_true (by omega)
          clear c857
          go_wp2_with fail
          obtain ⟨t2504, HA2505, H⟩ := bind_some H
          refine (quitrentlaw10_begun.calls _ t2504 _ ⟨Sep.start _⟩ HA2505).mono ?_
          rintro e_ w2506 ⟨rfl, hS⟩
          replace HS : Aside0 (Sep (fps []) w [b1 g9 a1 a2 a3 a4] w2506) := ⟨HS.out.call hS⟩
          clear hS
          replace HS : Aside0 (Sep (fps []) w [] w2506) := ⟨HS.out.sub (.cons _ .slnil)⟩
          go_wp2_with fail
          go_ret
          rw [← some_eq H]
          exact ⟨(by first | rfl | (simp [IntKind.wrap_u32]; done)), HS.out⟩
        · replace H := if_no c857 H
          have c857b0 : decide (200 < (l5.length : Int)) = false := decide_eq_false c857
          have c857b1 : decide (200 < l5.length) = false := decide_eq_false (by omega)
          clear c857
          replace HS : Aside0 (Sep (fps []) w [] w855) := ⟨HS.out.sub (.cons _ .slnil)⟩
          go_wp2_with fail
          go_ret
          rw [← some_eq H]
          exact ⟨(by first | rfl | (simp [IntKind.wrap_u32]; done)), HS.out⟩
      · replace H := if_no c856 H
        have c856b0 : t853 = false := by simpa using c856
        have c856b1 : (!t853) = true := by rw [c856b0]; rfl
        try rw [c856b1]
        clear c856
        go_wp2_with fail
        obtain ⟨t2504, HA2507, H⟩ := bind_some H
        refine (quitrentlaw10_begun.calls _ t2504 _ ⟨Sep.start _⟩ HA2507).mono ?_
        rintro e_ w2508 ⟨rfl, hS⟩
        replace HS : Aside0 (Sep (fps []) w [b1 g9 a1 a2 a3 a4] w2508) := ⟨HS.out.call hS⟩
        clear hS
        replace HS : Aside0 (Sep (fps []) w [] w2508) := ⟨HS.out.sub (.cons _ .slnil)⟩
        go_wp2_with fail
        go_ret
        rw [← some_eq H]
        exact ⟨(by first | rfl | (simp [IntKind.wrap_u32]; done)), HS.out⟩
    · replace H := if_no c836 H
      have c836b0 : t833 = false := by simpa using c836
      have c836b1 : (!t833) = true := by rw [c836b0]; rfl
      try rw [c836b1]
      clear c836
      go_wp2_with fail
      obtain ⟨t2504, HA2509, H⟩ := bind_some H
      refine (quitrentlaw10_begun.calls _ t2504 _ ⟨Sep.start _⟩ HA2509).mono ?_
      rintro e_ w2510 ⟨rfl, hS⟩
      replace HS : Aside0 (Sep (fps []) w [b1 g9 a1 a2 a3 a4] w2510) := ⟨HS.out.call hS⟩
      clear hS
      replace HS : Aside0 (Sep (fps []) w [] w2510) := ⟨HS.out.sub (.cons _ .slnil)⟩
      go_wp2_with fail
      go_ret
      rw [← some_eq H]
      exact ⟨(by first | rfl | (simp [IntKind.wrap_u32]; done)), HS.out⟩
  · have H := sum_r H
    have H := sum_l H
    refine (ground_New.calls _ a1 a2 a3 a4 (.inr (.inl t807)) _ ⟨Sep.start _⟩ HA805).mono ?_
    rintro e_ w2511 ⟨g2515, rfl, g2516, A2517, m2518, n2519, hS⟩
    replace HS : Aside0 (Sep (fps []) w [b7 g2515 g2516 t807.1 t807.2.1 t807.2.2.1 t807.2.2.2.1, b6 g2516 A2517 m2518 n2519 0, r5 A2517 m2518 n2519 t807.2.2.2.2, b1 g9 a1 a2 a3 a4] w2511) := ⟨HS.out.call hS⟩
    clear hS
    obtain rfl := (row_len (HS.out.at2)).symm
    have hc2521 : w2511.cell? ⟨g9, 0, none⟩ = some (.int .i64 a1) := blk_cellv (HS.out.at3) 0 rfl
    have hc2522 : w2511.cell? ⟨g9, 1, none⟩ = some (.int .i64 a2) := blk_cellv (HS.out.at3) 1 rfl
    have hc2523 : w2511.cell? ⟨g9, 2, none⟩ = some (.int .i64 a3) := blk_cellv (HS.out.at3) 2 rfl
    have hc2524 : w2511.cell? ⟨g9, 3, none⟩ = some (.int .i64 a4) := blk_cellv (HS.out.at3) 3 rfl
    go_wp2_with fail
    clear hc2521 hc2522 hc2523 hc2524
    obtain ⟨t833, HA2525, H⟩ := bind_some H
    refine (quitrentref03_May.calls a1 a2 a3 a4 t833 _ ⟨Sep.start _⟩ HA2525).mono ?_
    rintro e_ w2526 ⟨rfl, hS⟩
    replace HS : Aside0 (Sep (fps []) w [b7 g2515 g2516 t807.1 t807.2.1 t807.2.2.1 t807.2.2.2.1, b6 g2516 A2517 ((t807.2.2.2.2).length) n2519 0, r5 A2517 ((t807.2.2.2.2).length) n2519 t807.2.2.2.2, b1 g9 a1 a2 a3 a4] w2526) := ⟨HS.out.call hS⟩
    clear hS
    by_cases c2527 : t833 = true
    · replace H := if_yes c2527 H
      have c2527b0 : t833 = true := c2527
      have c2527b1 : (!t833) = false := by rw [c2527b0]; rfl
      try rw [c2527b1]
      clear c2527
      have hc2528 : w2526.cell? ⟨g9, 0, none⟩ = some (.int .i64 a1) := blk_cellv (HS.out.at3) 0 rfl
      have hc2529 : w2526.cell? ⟨g9, 1, none⟩ = some (.int .i64 a2) := blk_cellv (HS.out.at3) 1 rfl
      have hc2530 : w2526.cell? ⟨g9, 2, none⟩ = some (.int .i64 a3) := blk_cellv (HS.out.at3) 2 rfl
      have hc2531 : w2526.cell? ⟨g9, 3, none⟩ = some (.int .i64 a4) := blk_cellv (HS.out.at3) 3 rfl
      go_wp2_with fail
      clear hc2528 hc2529 hc2530 hc2531
      obtain ⟨t853, HA2532, H⟩ := bind_some H
      refine (quitrentref05_Little.calls a1 a2 a3 a4 t853 _ ⟨Sep.start _⟩ HA2532).mono ?_
      rintro e_ w2533 ⟨rfl, hS⟩
      replace HS : Aside0 (Sep (fps []) w [b7 g2515 g2516 t807.1 t807.2.1 t807.2.2.1 t807.2.2.2.1, b6 g2516 A2517 ((t807.2.2.2.2).length) n2519 0, r5 A2517 ((t807.2.2.2.2).length) n2519 t807.2.2.2.2, b1 g9 a1 a2 a3 a4] w2533) := ⟨HS.out.call hS⟩
      clear hS
      by_cases c2534 : t853 = true
      · replace H := if_yes c2534 H
        have c2534b0 : t853 = true := c2534
        have c2534b1 : (!t853) = false := by rw [c2534b0]; rfl
        try rw [c2534b1]
        clear c2534
        by_cases c2535 : (l5.length : Int) > 200
        · replace H := if_yes c2535 H
          have c2535b0 : decide (200 < (l5.length : Int)) = true := decide_eq_true c2535
          have c2535b1 : decide (200 < l5.length) = true := decide_eq_true (by omega)
          clear c2535
          go_wp2_with fail
          obtain ⟨t2504, HA2536, H⟩ := bind_some H
          refine (quitrentlaw10_begun.calls _ t2504 _ ⟨Sep.start _⟩ HA2536).mono ?_
          rintro e_ w2537 ⟨rfl, hS⟩
          replace HS : Aside0 (Sep (fps []) w [b7 g2515 g2516 t807.1 t807.2.1 t807.2.2.1 t807.2.2.2.1, b6 g2516 A2517 ((t807.2.2.2.2).length) n2519 0, r5 A2517 ((t807.2.2.2.2).length) n2519 t807.2.2.2.2, b1 g9 a1 a2 a3 a4] w2537) := ⟨HS.out.call hS⟩
          clear hS
          replace HS : Aside0 (Sep (fps []) w [] w2537) := ⟨HS.out.sub (.cons _ (.cons _ (.cons _ (.cons _ .slnil))))⟩
          go_wp2_with fail
          go_ret
          rw [← some_eq H]
          exact ⟨(by first | rfl | (simp [IntKind.wrap_u32]; done)), HS.out⟩
        · replace H := if_no c2535 H
          have c2535b0 : decide (200 < (l5.length : Int)) = false := decide_eq_false c2535
          have c2535b1 : decide (200 < l5.length) = false := decide_eq_false (by omega)
          clear c2535
          go_wp2_with fail
          obtain ⟨t2538, HA2539, H⟩ := bind_some H
          refine (pool_Open.calls _ t807.2.2.2.2 0 t807.1 t807.2.1 t807.2.2.1 t807.2.2.2.1 g2515 g2516 A2517 ((t807.2.2.2.2).length) n2519 t2538 _ ⟨HS.out.begin⟩ HA2539).mono ?_
          rintro e_ w2540 ⟨rfl, hS⟩
          replace HS : Aside0 (Sep (fps []) w [b7 g2515 g2516 t807.1 t807.2.1 t807.2.2.1 t807.2.2.2.1, b6 g2516 A2517 ((t807.2.2.2.2).length) n2519 t2538.2.1, r5 A2517 ((t807.2.2.2.2).length) n2519 t2538.2.2, b1 g9 a1 a2 a3 a4] w2540) := ⟨HS.out.call hS⟩
          clear hS
          by_cases c2541 : t2538.1 = true
          · replace H := if_yes c2541 H
            have c2541b0 : t2538.1 = true := c2541
            have c2541b1 : (!t2538.1) = false := by rw [c2541b0]; rfl
            try rw [c2541b1]
            clear c2541
            have hc2542 : w2540.cell? ⟨g9, 0, none⟩ = some (.int .i64 a1) := blk_cellv (HS.out.at3) 0 rfl
            go_wp2_with fail
            clear hc2542
            obtain ⟨t2587, HA2588, H⟩ := bind_some H
            refine (quitrentref10_Open.calls _ a1 t2587 _ ⟨Sep.start _⟩ HA2588).mono ?_
            rintro e_ w2589 ⟨A2591, m2592, n2593, rfl, hS⟩
            replace HS : Aside0 (Sep (fps []) w [r13 A2591 m2592 n2593 t2587, b7 g2515 g2516 t807.1 t807.2.1 t807.2.2.1 t807.2.2.2.1, b6 g2516 A2517 ((t807.2.2.2.2).length) n2519 t2538.2.1, r5 A2517 ((t807.2.2.2.2).length) n2519 t2538.2.2, b1 g9 a1 a2 a3 a4] w2589) := ⟨HS.out.call hS⟩
            clear hS
            obtain rfl := (row_len (HS.out.at0)).symm
            replace HS : Aside0 (Sep (fps []) w [r13 A2591 t2587.length n2593 t2587, b7 g2515 g2516 t807.1 t807.2.1 t807.2.2.1 t807.2.2.2.1, b6 g2516 A2517 ((t807.2.2.2.2).length) n2519 t2538.2.1, r5 A2517 ((t807.2.2.2.2).length) n2519 t2538.2.2] w2589) := ⟨HS.out.sub (.cons_cons _ (.cons_cons _ (.cons_cons _ (.cons_cons _ (.cons _ .slnil)))))⟩
            go_wp2_with fail
            obtain ⟨o3380, AL3381, H⟩ := bind_some H
            go_loopg [7, 43] k (fun kq v7 v43 wc => ∃ (x3384 : Int) (x3385 : List Int) (x3390 : List Int) (x3391 : Int) (A3386 : Option Addr) (m3387 : Nat) (n3388 : Nat), v7 = .slice A3386 m3387 n3388 ∧ v43 = .int .i64 x3384 ∧ Aside0 (quitrentlaw10_PoolPlays.lo0 kq l5 t807 x3384 x3385 x3390 x3391 = some o3380) ∧ Aside0 (Sep (fps []) w [r13 A3386 m3387 n3388 x3385, b7 g2515 g2516 t807.1 t807.2.1 t807.2.2.1 t807.2.2.2.1, b6 g2516 A2517 ((t807.2.2.2.2).length) n2519 x3391, r5 A2517 ((t807.2.2.2.2).length) n2519 x3390] wc))
            case atStart => exact ⟨(0), (t2587), (t2538.2.2), (t2538.2.1), (A2591), (t2587.length), (n2593), (by first | rfl | (simp [IntKind.wrap_u32]; done)), (by first | rfl | (simp [IntKind.wrap_u32]; done)), AL3381, ⟨HS.out⟩⟩
            case round =>
              clear AL3381 HS
              obtain ⟨x3384, x3385, x3390, x3391, A3386, m3387, n3388, rfl, rfl, AL3381, HS⟩ := hrel
              obtain ⟨w3382, rfl⟩ : ∃ x : World, x = wr := ⟨_, rfl⟩
              obtain rfl := (row_len (HS.out.at0)).symm
              cases gk with
              | zero => exact absurd AL3381.out (by simp [quitrentlaw10_PoolPlays.lo0])
              | succ k3383 =>
                have AL0 := AL3381.out
                rw [quitrentlaw10_PoolPlays.lo0] at AL0
                clear AL3381
                have AL3381 := Aside0.mk AL0
                clear AL0
                by_cases c3392 : x3384 < (l5.length : Int)
                · replace AL3381 := if_yes c3392 AL3381
                  have c3392b0 : decide (x3384 < (l5.length : Int)) = true := decide_eq_true c3392
                  clear c3392
                  by_cases c3393 : 0 ≤ x3384
                  · replace AL3381 := if_yes c3393 AL3381
                    have c3393b0 : decide (0 ≤ x3384) = true := decide_eq_true c3393
                    have c3393p : (0 ≤ x3384) = True := eq_true c3393
                    clear c3393
                    have ip3394 : (x3384 < (l5.length : Int)) = True := eq_true (of_decide_eq_true c3392b0)
                    obtain ⟨hx3395a, hx3395e, hx3396, hx3397, hx3398, hx3399, hx3400, hx3401, hx3402, hx3403, hx3404, hx3405⟩ := s14_at HR8.out HS.out.fr x3384 (of_decide_eq_true c3393b0) (of_decide_eq_true c3392b0); cases hx3395e
                    go_wp2_with (first | ((with_reducible refine gate_dst (N := 9) rfl ?_); refine box_on ?hg (N := 9) ?hd (cs := #[.int .u8 0, .int .i64 0, .int .i64 0, .int .i64 0, .int .i64 0, .int .i64 0, .int .i64 0, .int .i64 0, .int .i64 0, .int .u32 0]) (t := 104) ?hr ?_; (case hd => rfl); (case hg => rfl); (case hr => first | (go_simp; done) | (go_simp; rfl)); intro g3406 hg w3407 hbox hb; clear hx3396 hx3397 hx3398 hx3399 hx3400 hx3401 hx3402 hx3403 hx3404 hx3405; replace HS : Aside0 (Sep (fps []) w [r13 A3386 x3385.length n3388 x3385, b7 g2515 g2516 t807.1 t807.2.1 t807.2.2.1 t807.2.2.2.1, b6 g2516 A2517 ((t807.2.2.2.2).length) n2519 x3391, r5 A2517 ((t807.2.2.2.2).length) n2519 x3390, b15 g3406 0 0 0 0 0 0 0 0 0 0] w3407) := ⟨HS.out.box hg hbox hb⟩; clear hg hbox hb; have hc3409 : w3407.cell? ⟨g3406, 0, none⟩ = some (.int .u8 0) := blk_cellv (HS.out.at4) 0 rfl; have hz3410 : w3407.frozen? ⟨g3406, 0, none⟩ = false := blk_fz (HS.out.at4) 0; have hc3411 : w3407.cell? ⟨g3406, 1, none⟩ = some (.int .i64 0) := blk_cellv (HS.out.at4) 1 rfl; have hz3412 : w3407.frozen? ⟨g3406, 1, none⟩ = false := blk_fz (HS.out.at4) 1; have hc3413 : w3407.cell? ⟨g3406, 2, none⟩ = some (.int .i64 0) := blk_cellv (HS.out.at4) 2 rfl; have hz3414 : w3407.frozen? ⟨g3406, 2, none⟩ = false := blk_fz (HS.out.at4) 2; have hc3415 : w3407.cell? ⟨g3406, 3, none⟩ = some (.int .i64 0) := blk_cellv (HS.out.at4) 3 rfl; have hz3416 : w3407.frozen? ⟨g3406, 3, none⟩ = false := blk_fz (HS.out.at4) 3; have hc3417 : w3407.cell? ⟨g3406, 4, none⟩ = some (.int .i64 0) := blk_cellv (HS.out.at4) 4 rfl; have hz3418 : w3407.frozen? ⟨g3406, 4, none⟩ = false := blk_fz (HS.out.at4) 4; have hc3419 : w3407.cell? ⟨g3406, 5, none⟩ = some (.int .i64 0) := blk_cellv (HS.out.at4) 5 rfl; have hz3420 : w3407.frozen? ⟨g3406, 5, none⟩ = false := blk_fz (HS.out.at4) 5; have hc3421 : w3407.cell? ⟨g3406, 6, none⟩ = some (.int .i64 0) := blk_cellv (HS.out.at4) 6 rfl; have hz3422 : w3407.frozen? ⟨g3406, 6, none⟩ = false := blk_fz (HS.out.at4) 6; have hc3423 : w3407.cell? ⟨g3406, 7, none⟩ = some (.int .i64 0) := blk_cellv (HS.out.at4) 7 rfl; have hz3424 : w3407.frozen? ⟨g3406, 7, none⟩ = false := blk_fz (HS.out.at4) 7; have hc3425 : w3407.cell? ⟨g3406, 8, none⟩ = some (.int .i64 0) := blk_cellv (HS.out.at4) 8 rfl; have hz3426 : w3407.frozen? ⟨g3406, 8, none⟩ = false := blk_fz (HS.out.at4) 8; have hc3427 : w3407.cell? ⟨g3406, 9, none⟩ = some (.int .u32 0) := blk_cellv (HS.out.at4) 9 rfl; have hz3428 : w3407.frozen? ⟨g3406, 9, none⟩ = false := blk_fz (HS.out.at4) 9) | ((with_reducible refine gate_store (t := 104) (p := 9) rfl ?_); refine store_event (w1 := (World.setCell (World.setCell (World.setCell (World.setCell (World.setCell (World.setCell (World.setCell (World.setCell (World.setCell (World.setCell w3407 ⟨g3406, 0, none⟩ (.int .u8 ((rdOf (0, 0, 0, 0, 0, 0, 0, 0, 0, 0) l5 x3384).1))) ⟨g3406, 1, none⟩ (.int .i64 ((rdOf (0, 0, 0, 0, 0, 0, 0, 0, 0, 0) l5 x3384).2.1))) ⟨g3406, 2, none⟩ (.int .i64 ((rdOf (0, 0, 0, 0, 0, 0, 0, 0, 0, 0) l5 x3384).2.2.1))) ⟨g3406, 3, none⟩ (.int .i64 ((rdOf (0, 0, 0, 0, 0, 0, 0, 0, 0, 0) l5 x3384).2.2.2.1))) ⟨g3406, 4, none⟩ (.int .i64 ((rdOf (0, 0, 0, 0, 0, 0, 0, 0, 0, 0) l5 x3384).2.2.2.2.1))) ⟨g3406, 5, none⟩ (.int .i64 ((rdOf (0, 0, 0, 0, 0, 0, 0, 0, 0, 0) l5 x3384).2.2.2.2.2.1))) ⟨g3406, 6, none⟩ (.int .i64 ((rdOf (0, 0, 0, 0, 0, 0, 0, 0, 0, 0) l5 x3384).2.2.2.2.2.2.1))) ⟨g3406, 7, none⟩ (.int .i64 ((rdOf (0, 0, 0, 0, 0, 0, 0, 0, 0, 0) l5 x3384).2.2.2.2.2.2.2.1))) ⟨g3406, 8, none⟩ (.int .i64 ((rdOf (0, 0, 0, 0, 0, 0, 0, 0, 0, 0) l5 x3384).2.2.2.2.2.2.2.2.1))) ⟨g3406, 9, none⟩ (.int .u32 ((rdOf (0, 0, 0, 0, 0, 0, 0, 0, 0, 0) l5 x3384).2.2.2.2.2.2.2.2.2)))) rfl (t := 104) (p := 9) rfl rfl ?hr ?_; (case hr => first | (go_simp; done) | (go_simp; rfl)); intro w3429 hst; clear hc3409 hz3410 hc3411 hz3412 hc3413 hz3414 hc3415 hz3416 hc3417 hz3418 hc3419 hz3420 hc3421 hz3422 hc3423 hz3424 hc3425 hz3426 hc3427 hz3428; replace HS : Aside0 (Sep (fps []) w [r13 A3386 x3385.length n3388 x3385, b7 g2515 g2516 t807.1 t807.2.1 t807.2.2.1 t807.2.2.2.1, b6 g2516 A2517 ((t807.2.2.2.2).length) n2519 x3391, r5 A2517 ((t807.2.2.2.2).length) n2519 x3390, b15 g3406 ((rdOf (0, 0, 0, 0, 0, 0, 0, 0, 0, 0) l5 x3384).1) ((rdOf (0, 0, 0, 0, 0, 0, 0, 0, 0, 0) l5 x3384).2.1) ((rdOf (0, 0, 0, 0, 0, 0, 0, 0, 0, 0) l5 x3384).2.2.1) ((rdOf (0, 0, 0, 0, 0, 0, 0, 0, 0, 0) l5 x3384).2.2.2.1) ((rdOf (0, 0, 0, 0, 0, 0, 0, 0, 0, 0) l5 x3384).2.2.2.2.1) ((rdOf (0, 0, 0, 0, 0, 0, 0, 0, 0, 0) l5 x3384).2.2.2.2.2.1) ((rdOf (0, 0, 0, 0, 0, 0, 0, 0, 0, 0) l5 x3384).2.2.2.2.2.2.1) ((rdOf (0, 0, 0, 0, 0, 0, 0, 0, 0, 0) l5 x3384).2.2.2.2.2.2.2.1) ((rdOf (0, 0, 0, 0, 0, 0, 0, 0, 0, 0) l5 x3384).2.2.2.2.2.2.2.2.1) ((rdOf (0, 0, 0, 0, 0, 0, 0, 0, 0, 0) l5 x3384).2.2.2.2.2.2.2.2.2)] w3429) := ⟨by rw [hst]; exact HS.out.setAll (l1 := [r13 A3386 x3385.length n3388 x3385, b7 g2515 g2516 t807.1 t807.2.1 t807.2.2.1 t807.2.2.2.1, b6 g2516 A2517 ((t807.2.2.2.2).length) n2519 x3391, r5 A2517 ((t807.2.2.2.2).length) n2519 x3390]) (l2 := []) [.int .u8 ((rdOf (0, 0, 0, 0, 0, 0, 0, 0, 0, 0) l5 x3384).1), .int .i64 ((rdOf (0, 0, 0, 0, 0, 0, 0, 0, 0, 0) l5 x3384).2.1), .int .i64 ((rdOf (0, 0, 0, 0, 0, 0, 0, 0, 0, 0) l5 x3384).2.2.1), .int .i64 ((rdOf (0, 0, 0, 0, 0, 0, 0, 0, 0, 0) l5 x3384).2.2.2.1), .int .i64 ((rdOf (0, 0, 0, 0, 0, 0, 0, 0, 0, 0) l5 x3384).2.2.2.2.1), .int .i64 ((rdOf (0, 0, 0, 0, 0, 0, 0, 0, 0, 0) l5 x3384).2.2.2.2.2.1), .int .i64 ((rdOf (0, 0, 0, 0, 0, 0, 0, 0, 0, 0) l5 x3384).2.2.2.2.2.2.1), .int .i64 ((rdOf (0, 0, 0, 0, 0, 0, 0, 0, 0, 0) l5 x3384).2.2.2.2.2.2.2.1), .int .i64 ((rdOf (0, 0, 0, 0, 0, 0, 0, 0, 0, 0) l5 x3384).2.2.2.2.2.2.2.2.1), .int .u32 ((rdOf (0, 0, 0, 0, 0, 0, 0, 0, 0, 0) l5 x3384).2.2.2.2.2.2.2.2.2)] rfl⟩; clear hst; have hc3430 : w3429.cell? ⟨g3406, 0, none⟩ = some (.int .u8 ((rdOf (0, 0, 0, 0, 0, 0, 0, 0, 0, 0) l5 x3384).1)) := blk_cellv (HS.out.at4) 0 rfl; have hc3431 : w3429.cell? ⟨g3406, 1, none⟩ = some (.int .i64 ((rdOf (0, 0, 0, 0, 0, 0, 0, 0, 0, 0) l5 x3384).2.1)) := blk_cellv (HS.out.at4) 1 rfl; have hc3432 : w3429.cell? ⟨g3406, 2, none⟩ = some (.int .i64 ((rdOf (0, 0, 0, 0, 0, 0, 0, 0, 0, 0) l5 x3384).2.2.1)) := blk_cellv (HS.out.at4) 2 rfl; have hc3433 : w3429.cell? ⟨g3406, 3, none⟩ = some (.int .i64 ((rdOf (0, 0, 0, 0, 0, 0, 0, 0, 0, 0) l5 x3384).2.2.2.1)) := blk_cellv (HS.out.at4) 3 rfl; have hc3434 : w3429.cell? ⟨g3406, 4, none⟩ = some (.int .i64 ((rdOf (0, 0, 0, 0, 0, 0, 0, 0, 0, 0) l5 x3384).2.2.2.2.1)) := blk_cellv (HS.out.at4) 4 rfl; have hc3435 : w3429.cell? ⟨g3406, 5, none⟩ = some (.int .i64 ((rdOf (0, 0, 0, 0, 0, 0, 0, 0, 0, 0) l5 x3384).2.2.2.2.2.1)) := blk_cellv (HS.out.at4) 5 rfl; have hc3436 : w3429.cell? ⟨g3406, 6, none⟩ = some (.int .i64 ((rdOf (0, 0, 0, 0, 0, 0, 0, 0, 0, 0) l5 x3384).2.2.2.2.2.2.1)) := blk_cellv (HS.out.at4) 6 rfl; have hc3437 : w3429.cell? ⟨g3406, 7, none⟩ = some (.int .i64 ((rdOf (0, 0, 0, 0, 0, 0, 0, 0, 0, 0) l5 x3384).2.2.2.2.2.2.2.1)) := blk_cellv (HS.out.at4) 7 rfl; have hc3438 : w3429.cell? ⟨g3406, 8, none⟩ = some (.int .i64 ((rdOf (0, 0, 0, 0, 0, 0, 0, 0, 0, 0) l5 x3384).2.2.2.2.2.2.2.2.1)) := blk_cellv (HS.out.at4) 8 rfl; have hc3439 : w3429.cell? ⟨g3406, 9, none⟩ = some (.int .u32 ((rdOf (0, 0, 0, 0, 0, 0, 0, 0, 0, 0) l5 x3384).2.2.2.2.2.2.2.2.2)) := blk_cellv (HS.out.at4) 9 rfl))
                    clear hc3430 hc3431 hc3432 hc3433 hc3434 hc3435 hc3436 hc3437 hc3438 hc3439
                    replace HS : Aside0 (Sep (fps []) w [r5 A2517 ((t807.2.2.2.2).length) n2519 x3390, r13 A3386 x3385.length n3388 x3385, b7 g2515 g2516 t807.1 t807.2.1 t807.2.2.1 t807.2.2.2.1, b6 g2516 A2517 ((t807.2.2.2.2).length) n2519 x3391, b15 g3406 ((rdOf (0, 0, 0, 0, 0, 0, 0, 0, 0, 0) l5 x3384).1) ((rdOf (0, 0, 0, 0, 0, 0, 0, 0, 0, 0) l5 x3384).2.1) ((rdOf (0, 0, 0, 0, 0, 0, 0, 0, 0, 0) l5 x3384).2.2.1) ((rdOf (0, 0, 0, 0, 0, 0, 0, 0, 0, 0) l5 x3384).2.2.2.1) ((rdOf (0, 0, 0, 0, 0, 0, 0, 0, 0, 0) l5 x3384).2.2.2.2.1) ((rdOf (0, 0, 0, 0, 0, 0, 0, 0, 0, 0) l5 x3384).2.2.2.2.2.1) ((rdOf (0, 0, 0, 0, 0, 0, 0, 0, 0, 0) l5 x3384).2.2.2.2.2.2.1) ((rdOf (0, 0, 0, 0, 0, 0, 0, 0, 0, 0) l5 x3384).2.2.2.2.2.2.2.1) ((rdOf (0, 0, 0, 0, 0, 0, 0, 0, 0, 0) l5 x3384).2.2.2.2.2.2.2.2.1) ((rdOf (0, 0, 0, 0, 0, 0, 0, 0, 0, 0) l5 x3384).2.2.2.2.2.2.2.2.2)] w3429) := ⟨HS.out.front 3 (by simp)⟩
                    replace HS : Aside0 (Sep (fps []) w [b6 g2516 A2517 ((t807.2.2.2.2).length) n2519 x3391, r5 A2517 ((t807.2.2.2.2).length) n2519 x3390, r13 A3386 x3385.length n3388 x3385, b7 g2515 g2516 t807.1 t807.2.1 t807.2.2.1 t807.2.2.2.1, b15 g3406 ((rdOf (0, 0, 0, 0, 0, 0, 0, 0, 0, 0) l5 x3384).1) ((rdOf (0, 0, 0, 0, 0, 0, 0, 0, 0, 0) l5 x3384).2.1) ((rdOf (0, 0, 0, 0, 0, 0, 0, 0, 0, 0) l5 x3384).2.2.1) ((rdOf (0, 0, 0, 0, 0, 0, 0, 0, 0, 0) l5 x3384).2.2.2.1) ((rdOf (0, 0, 0, 0, 0, 0, 0, 0, 0, 0) l5 x3384).2.2.2.2.1) ((rdOf (0, 0, 0, 0, 0, 0, 0, 0, 0, 0) l5 x3384).2.2.2.2.2.1) ((rdOf (0, 0, 0, 0, 0, 0, 0, 0, 0, 0) l5 x3384).2.2.2.2.2.2.1) ((rdOf (0, 0, 0, 0, 0, 0, 0, 0, 0, 0) l5 x3384).2.2.2.2.2.2.2.1) ((rdOf (0, 0, 0, 0, 0, 0, 0, 0, 0, 0) l5 x3384).2.2.2.2.2.2.2.2.1) ((rdOf (0, 0, 0, 0, 0, 0, 0, 0, 0, 0) l5 x3384).2.2.2.2.2.2.2.2.2)] w3429) := ⟨HS.out.front 3 (by simp)⟩
                    replace HS : Aside0 (Sep (fps []) w [b7 g2515 g2516 t807.1 t807.2.1 t807.2.2.1 t807.2.2.2.1, b6 g2516 A2517 ((t807.2.2.2.2).length) n2519 x3391, r5 A2517 ((t807.2.2.2.2).length) n2519 x3390, r13 A3386 x3385.length n3388 x3385, b15 g3406 ((rdOf (0, 0, 0, 0, 0, 0, 0, 0, 0, 0) l5 x3384).1) ((rdOf (0, 0, 0, 0, 0, 0, 0, 0, 0, 0) l5 x3384).2.1) ((rdOf (0, 0, 0, 0, 0, 0, 0, 0, 0, 0) l5 x3384).2.2.1) ((rdOf (0, 0, 0, 0, 0, 0, 0, 0, 0, 0) l5 x3384).2.2.2.1) ((rdOf (0, 0, 0, 0, 0, 0, 0, 0, 0, 0) l5 x3384).2.2.2.2.1) ((rdOf (0, 0, 0, 0, 0, 0, 0, 0, 0, 0) l5 x3384).2.2.2.2.2.1) ((rdOf (0, 0, 0, 0, 0, 0, 0, 0, 0, 0) l5 x3384).2.2.2.2.2.2.1) ((rdOf (0, 0, 0, 0, 0, 0, 0, 0, 0, 0) l5 x3384).2.2.2.2.2.2.2.1) ((rdOf (0, 0, 0, 0, 0, 0, 0, 0, 0, 0) l5 x3384).2.2.2.2.2.2.2.2.1) ((rdOf (0, 0, 0, 0, 0, 0, 0, 0, 0, 0) l5 x3384).2.2.2.2.2.2.2.2.2)] w3429) := ⟨HS.out.front 3 (by simp)⟩
                    obtain ⟨t3289, HA3440, AL3381⟩ := bind_some AL3381
                    rcases t3289 with t3291 | t3292
                    · have AL3381 := sum_l AL3381
                      refine (quitrentlaw10_do.calls _ x3390 x3391 t807.1 t807.2.1 t807.2.2.1 t807.2.2.2.1 x3385 ((rdOf (0, 0, 0, 0, 0, 0, 0, 0, 0, 0) l5 x3384).1) ((rdOf (0, 0, 0, 0, 0, 0, 0, 0, 0, 0) l5 x3384).2.1) ((rdOf (0, 0, 0, 0, 0, 0, 0, 0, 0, 0) l5 x3384).2.2.1) ((rdOf (0, 0, 0, 0, 0, 0, 0, 0, 0, 0) l5 x3384).2.2.2.1) ((rdOf (0, 0, 0, 0, 0, 0, 0, 0, 0, 0) l5 x3384).2.2.2.2.1) ((rdOf (0, 0, 0, 0, 0, 0, 0, 0, 0, 0) l5 x3384).2.2.2.2.2.1) ((rdOf (0, 0, 0, 0, 0, 0, 0, 0, 0, 0) l5 x3384).2.2.2.2.2.2.1) ((rdOf (0, 0, 0, 0, 0, 0, 0, 0, 0, 0) l5 x3384).2.2.2.2.2.2.2.1) ((rdOf (0, 0, 0, 0, 0, 0, 0, 0, 0, 0) l5 x3384).2.2.2.2.2.2.2.2.1) ((rdOf (0, 0, 0, 0, 0, 0, 0, 0, 0, 0) l5 x3384).2.2.2.2.2.2.2.2.2) g2515 g2516 A2517 ((t807.2.2.2.2).length) n2519 A3386 n3388 (.inl t3291) _ ⟨Rd.ownI  HS.out 0 rfl⟩ ⟨HS.out.begin⟩ HA3440).mono ?_
                      rintro e_ w3441 ⟨rfl, hS⟩
                      replace HS : Aside0 (Sep (fps []) w [b7 g2515 g2516 t807.1 t807.2.1 t807.2.2.1 t807.2.2.2.1, b6 g2516 A2517 ((t807.2.2.2.2).length) n2519 t3291.2.1, r5 A2517 ((t807.2.2.2.2).length) n2519 t3291.2.2, r13 A3386 x3385.length n3388 x3385, b15 g3406 ((rdOf (0, 0, 0, 0, 0, 0, 0, 0, 0, 0) l5 x3384).1) ((rdOf (0, 0, 0, 0, 0, 0, 0, 0, 0, 0) l5 x3384).2.1) ((rdOf (0, 0, 0, 0, 0, 0, 0, 0, 0, 0) l5 x3384).2.2.1) ((rdOf (0, 0, 0, 0, 0, 0, 0, 0, 0, 0) l5 x3384).2.2.2.1) ((rdOf (0, 0, 0, 0, 0, 0, 0, 0, 0, 0) l5 x3384).2.2.2.2.1) ((rdOf (0, 0, 0, 0, 0, 0, 0, 0, 0, 0) l5 x3384).2.2.2.2.2.1) ((rdOf (0, 0, 0, 0, 0, 0, 0, 0, 0, 0) l5 x3384).2.2.2.2.2.2.1) ((rdOf (0, 0, 0, 0, 0, 0, 0, 0, 0, 0) l5 x3384).2.2.2.2.2.2.2.1) ((rdOf (0, 0, 0, 0, 0, 0, 0, 0, 0, 0) l5 x3384).2.2.2.2.2.2.2.2.1) ((rdOf (0, 0, 0, 0, 0, 0, 0, 0, 0, 0) l5 x3384).2.2.2.2.2.2.2.2.2)] w3441) := ⟨HS.out.call hS⟩
                      clear hS
                      by_cases c3442 : t3291.1 = true
                      · replace AL3381 := if_yes c3442 AL3381
                        have c3442b0 : t3291.1 = true := c3442
                        have c3442b1 : (!t3291.1) = false := by rw [c3442b0]; rfl
                        try rw [c3442b1]
                        clear c3442
                        replace HS : Aside0 (Sep (fps []) w [b7 g2515 g2516 t807.1 t807.2.1 t807.2.2.1 t807.2.2.2.1, b6 g2516 A2517 ((t807.2.2.2.2).length) n2519 t3291.2.1, r5 A2517 ((t807.2.2.2.2).length) n2519 t3291.2.2, r13 A3386 x3385.length n3388 x3385] w3441) := ⟨HS.out.sub (.cons_cons _ (.cons_cons _ (.cons_cons _ (.cons_cons _ (.cons _ .slnil)))))⟩
                        go_wp2_with fail
                        obtain ⟨t3295, HA3443, AL3381⟩ := bind_some AL3381
                        refine (pool_List.calls _ t3291.2.2 t3291.2.1 t807.1 t807.2.1 t807.2.2.1 t807.2.2.2.1 g2515 g2516 A2517 ((t807.2.2.2.2).length) n2519 t3295 _ ⟨HS.out.begin⟩ HA3443).mono ?_
                        rintro e_ w3444 ⟨A3446, m3447, n3448, rfl, hS⟩
                        replace HS : Aside0 (Sep (fps []) w [b7 g2515 g2516 t807.1 t807.2.1 t807.2.2.1 t807.2.2.2.1, b6 g2516 A2517 ((t807.2.2.2.2).length) n2519 t3291.2.1, r5 A2517 ((t807.2.2.2.2).length) n2519 t3291.2.2, r13 A3446 m3447 n3448 t3295, r13 A3386 x3385.length n3388 x3385] w3444) := ⟨HS.out.call hS⟩
                        clear hS
                        obtain rfl := (row_len (HS.out.at3)).symm
                        go_wp2_with fail
                        obtain ⟨t3303, HA3450, AL3381⟩ := bind_some AL3381
                        refine (quitrentref01_Ints.calls _ t3295 x3385 A3446 n3448 A3386 n3388 t3303 _ ⟨Rd.ownI (l := []) HS.out 3 rfl⟩ ⟨Rd.ownI (l := []) HS.out 4 rfl⟩ ⟨Sep.start _⟩ HA3450).mono ?_
                        rintro e_ w3451 ⟨rfl, hS⟩
                        replace HS : Aside0 (Sep (fps []) w [b7 g2515 g2516 t807.1 t807.2.1 t807.2.2.1 t807.2.2.2.1, b6 g2516 A2517 ((t807.2.2.2.2).length) n2519 t3291.2.1, r5 A2517 ((t807.2.2.2.2).length) n2519 t3291.2.2, r13 A3446 t3295.length n3448 t3295, r13 A3386 x3385.length n3388 x3385] w3451) := ⟨HS.out.call hS⟩
                        clear hS
                        by_cases c3452 : t3303 = true
                        · replace AL3381 := if_yes c3452 AL3381
                          have c3452b0 : t3303 = true := c3452
                          have c3452b1 : (!t3303) = false := by rw [c3452b0]; rfl
                          try rw [c3452b1]
                          clear c3452
                          replace HS : Aside0 (Sep (fps []) w [b7 g2515 g2516 t807.1 t807.2.1 t807.2.2.1 t807.2.2.2.1, b6 g2516 A2517 ((t807.2.2.2.2).length) n2519 t3291.2.1, r5 A2517 ((t807.2.2.2.2).length) n2519 t3291.2.2, r13 A3386 x3385.length n3388 x3385] w3451) := ⟨HS.out.sub (.cons_cons _ (.cons_cons _ (.cons_cons _ (.cons _ (.cons_cons _ .slnil)))))⟩
                          go_wp2_with fail
                          go_roundg k3383
                          case measure => exact Nat.lt_succ_self _
                          case rel => exact ⟨(wrap64 (x3384 + 1)), (x3385), (t3291.2.2), (t3291.2.1), (A3386), (x3385.length), (n3388), (by first | rfl | (simp [IntKind.wrap_u32]; done)), (by first | rfl | (simp [IntKind.wrap_u32]; done)), Aside0.mk AL3381.out, ⟨(((((HS.out).front 2 (by simp)).front 2 (by simp)).front 2 (by simp)).front 3 (by simp)).keep (l := [r13 A3386 x3385.length n3388 x3385, b7 g2515 g2516 t807.1 t807.2.1 t807.2.2.1 t807.2.2.2.1, b6 g2516 A2517 ((t807.2.2.2.2).length) n2519 t3291.2.1, r5 A2517 ((t807.2.2.2.2).length) n2519 t3291.2.2]) (rest := [])⟩⟩
                        · replace AL3381 := if_no c3452 AL3381
                          have c3452b0 : t3303 = false := by simpa using c3452
                          have c3452b1 : (!t3303) = true := by rw [c3452b0]; rfl
                          try rw [c3452b1]
                          clear c3452
                          replace HS : Aside0 (Sep (fps []) w [b7 g2515 g2516 t807.1 t807.2.1 t807.2.2.1 t807.2.2.2.1, b6 g2516 A2517 ((t807.2.2.2.2).length) n2519 t3291.2.1, r5 A2517 ((t807.2.2.2.2).length) n2519 t3291.2.2, r13 A3386 x3385.length n3388 x3385] w3451) := ⟨HS.out.sub (.cons_cons _ (.cons_cons _ (.cons_cons _ (.cons _ (.cons_cons _ .slnil)))))⟩
                          go_wp2_with fail
                          have ho := some_eq AL3381
                          subst ho
                          have H := lp_ret H
                          go_ret
                          rw [← some_eq H]
                          exact ⟨(by first | rfl | (simp [IntKind.wrap_u32]; done)), HS.out.sub (.cons _ (.cons _ (.cons _ (.cons _ .slnil))))⟩
                      · replace AL3381 := if_no c3442 AL3381
                        have c3442b0 : t3291.1 = false := by simpa using c3442
                        have c3442b1 : (!t3291.1) = true := by rw [c3442b0]; rfl
                        try rw [c3442b1]
                        clear c3442
                        replace HS : Aside0 (Sep (fps []) w [b7 g2515 g2516 t807.1 t807.2.1 t807.2.2.1 t807.2.2.2.1, b6 g2516 A2517 ((t807.2.2.2.2).length) n2519 t3291.2.1, r5 A2517 ((t807.2.2.2.2).length) n2519 t3291.2.2, r13 A3386 x3385.length n3388 x3385] w3441) := ⟨HS.out.sub (.cons_cons _ (.cons_cons _ (.cons_cons _ (.cons_cons _ (.cons _ .slnil)))))⟩
                        go_wp2_with fail
                        have ho := some_eq AL3381
                        subst ho
                        have H := lp_ret H
                        go_ret
                        rw [← some_eq H]
                        exact ⟨(by first | rfl | (simp [IntKind.wrap_u32]; done)), HS.out.sub (.cons _ (.cons _ (.cons _ (.cons _ .slnil))))⟩
                    · have AL3381 := sum_r AL3381
                      refine (quitrentlaw10_do.calls _ x3390 x3391 t807.1 t807.2.1 t807.2.2.1 t807.2.2.2.1 x3385 ((rdOf (0, 0, 0, 0, 0, 0, 0, 0, 0, 0) l5 x3384).1) ((rdOf (0, 0, 0, 0, 0, 0, 0, 0, 0, 0) l5 x3384).2.1) ((rdOf (0, 0, 0, 0, 0, 0, 0, 0, 0, 0) l5 x3384).2.2.1) ((rdOf (0, 0, 0, 0, 0, 0, 0, 0, 0, 0) l5 x3384).2.2.2.1) ((rdOf (0, 0, 0, 0, 0, 0, 0, 0, 0, 0) l5 x3384).2.2.2.2.1) ((rdOf (0, 0, 0, 0, 0, 0, 0, 0, 0, 0) l5 x3384).2.2.2.2.2.1) ((rdOf (0, 0, 0, 0, 0, 0, 0, 0, 0, 0) l5 x3384).2.2.2.2.2.2.1) ((rdOf (0, 0, 0, 0, 0, 0, 0, 0, 0, 0) l5 x3384).2.2.2.2.2.2.2.1) ((rdOf (0, 0, 0, 0, 0, 0, 0, 0, 0, 0) l5 x3384).2.2.2.2.2.2.2.2.1) ((rdOf (0, 0, 0, 0, 0, 0, 0, 0, 0, 0) l5 x3384).2.2.2.2.2.2.2.2.2) g2515 g2516 A2517 ((t807.2.2.2.2).length) n2519 A3386 n3388 (.inr t3292) _ ⟨Rd.ownI  HS.out 0 rfl⟩ ⟨HS.out.begin⟩ HA3440).mono ?_
                      rintro e_ w3453 ⟨A3455, m3456, n3457, rfl, hS⟩
                      replace HS : Aside0 (Sep (fps []) w [b7 g2515 g2516 t807.1 t807.2.1 t807.2.2.1 t807.2.2.2.1, b6 g2516 A2517 ((t807.2.2.2.2).length) n2519 t3292.2.1, r5 A2517 ((t807.2.2.2.2).length) n2519 t3292.2.2.1, r13 A3455 m3456 n3457 t3292.2.2.2, r13 A3386 x3385.length n3388 x3385, b15 g3406 ((rdOf (0, 0, 0, 0, 0, 0, 0, 0, 0, 0) l5 x3384).1) ((rdOf (0, 0, 0, 0, 0, 0, 0, 0, 0, 0) l5 x3384).2.1) ((rdOf (0, 0, 0, 0, 0, 0, 0, 0, 0, 0) l5 x3384).2.2.1) ((rdOf (0, 0, 0, 0, 0, 0, 0, 0, 0, 0) l5 x3384).2.2.2.1) ((rdOf (0, 0, 0, 0, 0, 0, 0, 0, 0, 0) l5 x3384).2.2.2.2.1) ((rdOf (0, 0, 0, 0, 0, 0, 0, 0, 0, 0) l5 x3384).2.2.2.2.2.1) ((rdOf (0, 0, 0, 0, 0, 0, 0, 0, 0, 0) l5 x3384).2.2.2.2.2.2.1) ((rdOf (0, 0, 0, 0, 0, 0, 0, 0, 0, 0) l5 x3384).2.2.2.2.2.2.2.1) ((rdOf (0, 0, 0, 0, 0, 0, 0, 0, 0, 0) l5 x3384).2.2.2.2.2.2.2.2.1) ((rdOf (0, 0, 0, 0, 0, 0, 0, 0, 0, 0) l5 x3384).2.2.2.2.2.2.2.2.2)] w3453) := ⟨HS.out.call hS⟩
                      clear hS
                      obtain rfl := (row_len (HS.out.at3)).symm
                      by_cases c3459 : t3292.1 = true
                      · replace AL3381 := if_yes c3459 AL3381
                        have c3459b0 : t3292.1 = true := c3459
                        have c3459b1 : (!t3292.1) = false := by rw [c3459b0]; rfl
                        try rw [c3459b1]
                        clear c3459
                        replace HS : Aside0 (Sep (fps []) w [b7 g2515 g2516 t807.1 t807.2.1 t807.2.2.1 t807.2.2.2.1, b6 g2516 A2517 ((t807.2.2.2.2).length) n2519 t3292.2.1, r5 A2517 ((t807.2.2.2.2).length) n2519 t3292.2.2.1, r13 A3455 ((t3292.2.2.2).length) n3457 t3292.2.2.2, r13 A3386 x3385.length n3388 x3385] w3453) := ⟨HS.out.sub (.cons_cons _ (.cons_cons _ (.cons_cons _ (.cons_cons _ (.cons_cons _ (.cons _ .slnil))))))⟩
                        go_wp2_with fail
                        obtain ⟨t3295, HA3460, AL3381⟩ := bind_some AL3381
                        refine (pool_List.calls _ t3292.2.2.1 t3292.2.1 t807.1 t807.2.1 t807.2.2.1 t807.2.2.2.1 g2515 g2516 A2517 ((t807.2.2.2.2).length) n2519 t3295 _ ⟨HS.out.begin⟩ HA3460).mono ?_
                        rintro e_ w3461 ⟨A3463, m3464, n3465, rfl, hS⟩
                        replace HS : Aside0 (Sep (fps []) w [b7 g2515 g2516 t807.1 t807.2.1 t807.2.2.1 t807.2.2.2.1, b6 g2516 A2517 ((t807.2.2.2.2).length) n2519 t3292.2.1, r5 A2517 ((t807.2.2.2.2).length) n2519 t3292.2.2.1, r13 A3463 m3464 n3465 t3295, r13 A3455 ((t3292.2.2.2).length) n3457 t3292.2.2.2, r13 A3386 x3385.length n3388 x3385] w3461) := ⟨HS.out.call hS⟩
                        clear hS
                        obtain rfl := (row_len (HS.out.at3)).symm
                        go_wp2_with fail
                        obtain ⟨t3303, HA3467, AL3381⟩ := bind_some AL3381
                        refine (quitrentref01_Ints.calls _ t3295 t3292.2.2.2 A3463 n3465 A3455 n3457 t3303 _ ⟨Rd.ownI (l := []) HS.out 3 rfl⟩ ⟨Rd.ownI (l := []) HS.out 4 rfl⟩ ⟨Sep.start _⟩ HA3467).mono ?_
                        rintro e_ w3468 ⟨rfl, hS⟩
                        replace HS : Aside0 (Sep (fps []) w [b7 g2515 g2516 t807.1 t807.2.1 t807.2.2.1 t807.2.2.2.1, b6 g2516 A2517 ((t807.2.2.2.2).length) n2519 t3292.2.1, r5 A2517 ((t807.2.2.2.2).length) n2519 t3292.2.2.1, r13 A3463 t3295.length n3465 t3295, r13 A3455 ((t3292.2.2.2).length) n3457 t3292.2.2.2, r13 A3386 x3385.length n3388 x3385] w3468) := ⟨HS.out.call hS⟩
                        clear hS
                        by_cases c3469 : t3303 = true
                        · replace AL3381 := if_yes c3469 AL3381
                          have c3469b0 : t3303 = true := c3469
                          have c3469b1 : (!t3303) = false := by rw [c3469b0]; rfl
                          try rw [c3469b1]
                          clear c3469
                          replace HS : Aside0 (Sep (fps []) w [b7 g2515 g2516 t807.1 t807.2.1 t807.2.2.1 t807.2.2.2.1, b6 g2516 A2517 ((t807.2.2.2.2).length) n2519 t3292.2.1, r5 A2517 ((t807.2.2.2.2).length) n2519 t3292.2.2.1, r13 A3455 ((t3292.2.2.2).length) n3457 t3292.2.2.2, r13 A3386 x3385.length n3388 x3385] w3468) := ⟨HS.out.sub (.cons_cons _ (.cons_cons _ (.cons_cons _ (.cons _ (.cons_cons _ (.cons_cons _ .slnil))))))⟩
                          go_wp2_with fail
                          go_roundg k3383
                          case measure => exact Nat.lt_succ_self _
                          case rel => exact ⟨(wrap64 (x3384 + 1)), (t3292.2.2.2), (t3292.2.2.1), (t3292.2.1), (A3455), (((t3292.2.2.2).length)), (n3457), (by first | rfl | (simp [IntKind.wrap_u32]; done)), (by first | rfl | (simp [IntKind.wrap_u32]; done)), Aside0.mk AL3381.out, ⟨(((((HS.out).front 2 (by simp)).front 2 (by simp)).front 2 (by simp)).front 3 (by simp)).keep (l := [r13 A3455 ((t3292.2.2.2).length) n3457 t3292.2.2.2, b7 g2515 g2516 t807.1 t807.2.1 t807.2.2.1 t807.2.2.2.1, b6 g2516 A2517 ((t807.2.2.2.2).length) n2519 t3292.2.1, r5 A2517 ((t807.2.2.2.2).length) n2519 t3292.2.2.1]) (rest := [r13 A3386 x3385.length n3388 x3385])⟩⟩
                        · replace AL3381 := if_no c3469 AL3381
                          have c3469b0 : t3303 = false := by simpa using c3469
                          have c3469b1 : (!t3303) = true := by rw [c3469b0]; rfl
                          try rw [c3469b1]
                          clear c3469
                          replace HS : Aside0 (Sep (fps []) w [b7 g2515 g2516 t807.1 t807.2.1 t807.2.2.1 t807.2.2.2.1, b6 g2516 A2517 ((t807.2.2.2.2).length) n2519 t3292.2.1, r5 A2517 ((t807.2.2.2.2).length) n2519 t3292.2.2.1, r13 A3455 ((t3292.2.2.2).length) n3457 t3292.2.2.2, r13 A3386 x3385.length n3388 x3385] w3468) := ⟨HS.out.sub (.cons_cons _ (.cons_cons _ (.cons_cons _ (.cons _ (.cons_cons _ (.cons_cons _ .slnil))))))⟩
                          replace HS : Aside0 (Sep (fps []) w [b7 g2515 g2516 t807.1 t807.2.1 t807.2.2.1 t807.2.2.2.1, b6 g2516 A2517 ((t807.2.2.2.2).length) n2519 t3292.2.1, r5 A2517 ((t807.2.2.2.2).length) n2519 t3292.2.2.1, r13 A3386 x3385.length n3388 x3385] w3468) := ⟨HS.out.sub (.cons_cons _ (.cons_cons _ (.cons_cons _ (.cons _ (.cons_cons _ .slnil)))))⟩
                          go_wp2_with fail
                          have ho := some_eq AL3381
                          subst ho
                          have H := lp_ret H
                          go_ret
                          rw [← some_eq H]
                          exact ⟨(by first | rfl | (simp [IntKind.wrap_u32]; done)), HS.out.sub (.cons _ (.cons _ (.cons _ (.cons _ .slnil))))⟩
                      · replace AL3381 := if_no c3459 AL3381
                        have c3459b0 : t3292.1 = false := by simpa using c3459
                        have c3459b1 : (!t3292.1) = true := by rw [c3459b0]; rfl
                        try rw [c3459b1]
                        clear c3459
                        replace HS : Aside0 (Sep (fps []) w [b7 g2515 g2516 t807.1 t807.2.1 t807.2.2.1 t807.2.2.2.1, b6 g2516 A2517 ((t807.2.2.2.2).length) n2519 t3292.2.1, r5 A2517 ((t807.2.2.2.2).length) n2519 t3292.2.2.1, r13 A3455 ((t3292.2.2.2).length) n3457 t3292.2.2.2, r13 A3386 x3385.length n3388 x3385] w3453) := ⟨HS.out.sub (.cons_cons _ (.cons_cons _ (.cons_cons _ (.cons_cons _ (.cons_cons _ (.cons _ .slnil))))))⟩
                        replace HS : Aside0 (Sep (fps []) w [b7 g2515 g2516 t807.1 t807.2.1 t807.2.2.1 t807.2.2.2.1, b6 g2516 A2517 ((t807.2.2.2.2).length) n2519 t3292.2.1, r5 A2517 ((t807.2.2.2.2).length) n2519 t3292.2.2.1, r13 A3386 x3385.length n3388 x3385] w3453) := ⟨HS.out.sub (.cons_cons _ (.cons_cons _ (.cons_cons _ (.cons _ (.cons_cons _ .slnil)))))⟩
                        go_wp2_with fail
                        have ho := some_eq AL3381
                        subst ho
                        have H := lp_ret H
                        go_ret
                        rw [← some_eq H]
                        exact ⟨(by first | rfl | (simp [IntKind.wrap_u32]; done)), HS.out.sub (.cons _ (.cons _ (.cons _ (.cons _ .slnil))))⟩
                  · replace AL3381 := if_no c3393 AL3381
                    have c3393b0 : decide (0 ≤ x3384) = false := decide_eq_false c3393
                    clear c3393
                    exact (none_no AL3381).elim
                · replace AL3381 := if_no c3392 AL3381
                  have c3392b0 : decide (x3384 < (l5.length : Int)) = false := decide_eq_false c3392
                  clear c3392
                  have ho := some_eq AL3381
                  subst ho
                  clear AL3381
                  have H := lp_out H
                  go_wp2_with fail
                  obtain ⟨t3470, HA3471, H⟩ := bind_some H
                  refine (quitrentlaw10_begun.calls _ t3470 _ ⟨Sep.start _⟩ HA3471).mono ?_
                  rintro e_ w3472 ⟨rfl, hS⟩
                  replace HS : Aside0 (Sep (fps []) w [r13 A3386 x3385.length n3388 x3385, b7 g2515 g2516 t807.1 t807.2.1 t807.2.2.1 t807.2.2.2.1, b6 g2516 A2517 ((t807.2.2.2.2).length) n2519 x3391, r5 A2517 ((t807.2.2.2.2).length) n2519 x3390] w3472) := ⟨HS.out.call hS⟩
                  clear hS
                  replace HS : Aside0 (Sep (fps []) w [] w3472) := ⟨HS.out.sub (.cons _ (.cons _ (.cons _ (.cons _ .slnil))))⟩
                  go_wp2_with fail
                  go_ret
                  rw [← some_eq H]
                  exact ⟨(by first | rfl | (simp [IntKind.wrap_u32]; done)), HS.out⟩
          · replace H := if_no c2541 H
            have c2541b0 : t2538.1 = false := by simpa using c2541
            have c2541b1 : (!t2538.1) = true := by rw [c2541b0]; rfl
            try rw [c2541b1]
            clear c2541
            replace HS : Aside0 (Sep (fps []) w [] w2540) := ⟨HS.out.sub (.cons _ (.cons _ (.cons _ (.cons _ .slnil))))⟩
            go_wp2_with fail
            go_ret
            rw [← some_eq H]
            exact ⟨(by first | rfl | (simp [IntKind.wrap_u32]; done)), HS.out⟩
      · replace H := if_no c2534 H
        have c2534b0 : t853 = false := by simpa using c2534
        have c2534b1 : (!t853) = true := by rw [c2534b0]; rfl
        try rw [c2534b1]
        clear c2534
        go_wp2_with fail
        obtain ⟨t2504, HA3479, H⟩ := bind_some H
        refine (quitrentlaw10_begun.calls _ t2504 _ ⟨Sep.start _⟩ HA3479).mono ?_
        rintro e_ w3480 ⟨rfl, hS⟩
        replace HS : Aside0 (Sep (fps []) w [b7 g2515 g2516 t807.1 t807.2.1 t807.2.2.1 t807.2.2.2.1, b6 g2516 A2517 ((t807.2.2.2.2).length) n2519 0, r5 A2517 ((t807.2.2.2.2).length) n2519 t807.2.2.2.2, b1 g9 a1 a2 a3 a4] w3480) := ⟨HS.out.call hS⟩
        clear hS
        replace HS : Aside0 (Sep (fps []) w [] w3480) := ⟨HS.out.sub (.cons _ (.cons _ (.cons _ (.cons _ .slnil))))⟩
        go_wp2_with fail
        go_ret
        rw [← some_eq H]
        exact ⟨(by first | rfl | (simp [IntKind.wrap_u32]; done)), HS.out⟩
    · replace H := if_no c2527 H
      have c2527b0 : t833 = false := by simpa using c2527
      have c2527b1 : (!t833) = true := by rw [c2527b0]; rfl
      try rw [c2527b1]
      clear c2527
      go_wp2_with fail
      obtain ⟨t2504, HA3481, H⟩ := bind_some H
      refine (quitrentlaw10_begun.calls _ t2504 _ ⟨Sep.start _⟩ HA3481).mono ?_
      rintro e_ w3482 ⟨rfl, hS⟩
      replace HS : Aside0 (Sep (fps []) w [b7 g2515 g2516 t807.1 t807.2.1 t807.2.2.1 t807.2.2.2.1, b6 g2516 A2517 ((t807.2.2.2.2).length) n2519 0, r5 A2517 ((t807.2.2.2.2).length) n2519 t807.2.2.2.2, b1 g9 a1 a2 a3 a4] w3482) := ⟨HS.out.call hS⟩
      clear hS
      replace HS : Aside0 (Sep (fps []) w [] w3482) := ⟨HS.out.sub (.cons _ (.cons _ (.cons _ (.cons _ .slnil))))⟩
      go_wp2_with fail
      go_ret
      rw [← some_eq H]
      exact ⟨(by first | rfl | (simp [IntKind.wrap_u32]; done)), HS.out⟩
  · have H := sum_r H
    have H := sum_r H
    refine (ground_New.calls _ a1 a2 a3 a4 (.inr (.inr t808)) _ ⟨Sep.start _⟩ HA805).mono ?_
    rintro e_ w3483 ⟨rfl, hS⟩
    replace HS : Aside0 (Sep (fps []) w [b1 g9 a1 a2 a3 a4] w3483) := ⟨HS.out.call hS⟩
    clear hS
    have hc3484 : w3483.cell? ⟨g9, 0, none⟩ = some (.int .i64 a1) := blk_cellv (HS.out.at0) 0 rfl
    have hc3485 : w3483.cell? ⟨g9, 1, none⟩ = some (.int .i64 a2) := blk_cellv (HS.out.at0) 1 rfl
    have hc3486 : w3483.cell? ⟨g9, 2, none⟩ = some (.int .i64 a3) := blk_cellv (HS.out.at0) 2 rfl
    have hc3487 : w3483.cell? ⟨g9, 3, none⟩ = some (.int .i64 a4) := blk_cellv (HS.out.at0) 3 rfl
    go_wp2_with fail
    clear hc3484 hc3485 hc3486 hc3487
    obtain ⟨t833, HA3488, H⟩ := bind_some H
    refine (quitrentref03_May.calls a1 a2 a3 a4 t833 _ ⟨Sep.start _⟩ HA3488).mono ?_
    rintro e_ w3489 ⟨rfl, hS⟩
    replace HS : Aside0 (Sep (fps []) w [b1 g9 a1 a2 a3 a4] w3489) := ⟨HS.out.call hS⟩
    clear hS
    by_cases c3490 : t833 = true
    · replace H := if_yes c3490 H
      have c3490b0 : t833 = true := c3490
      have c3490b1 : (!t833) = false := by rw [c3490b0]; rfl
      try rw [c3490b1]
      clear c3490
      have hc3491 : w3489.cell? ⟨g9, 0, none⟩ = some (.int .i64 a1) := blk_cellv (HS.out.at0) 0 rfl
      have hc3492 : w3489.cell? ⟨g9, 1, none⟩ = some (.int .i64 a2) := blk_cellv (HS.out.at0) 1 rfl
      have hc3493 : w3489.cell? ⟨g9, 2, none⟩ = some (.int .i64 a3) := blk_cellv (HS.out.at0) 2 rfl
      have hc3494 : w3489.cell? ⟨g9, 3, none⟩ = some (.int .i64 a4) := blk_cellv (HS.out.at0) 3 rfl
      go_wp2_with fail
      clear hc3491 hc3492 hc3493 hc3494
      obtain ⟨t853, HA3495, H⟩ := bind_some H
      refine (quitrentref05_Little.calls a1 a2 a3 a4 t853 _ ⟨Sep.start _⟩ HA3495).mono ?_
      rintro e_ w3496 ⟨rfl, hS⟩
      replace HS : Aside0 (Sep (fps []) w [b1 g9 a1 a2 a3 a4] w3496) := ⟨HS.out.call hS⟩
      clear hS
      by_cases c3497 : t853 = true
      · replace H := if_yes c3497 H
        have c3497b0 : t853 = true := c3497
        have c3497b1 : (!t853) = false := by rw [c3497b0]; rfl
        try rw [c3497b1]
        clear c3497
        by_cases c3498 : (l5.length : Int) > 200
        · replace H := if_yes c3498 H
          have c3498b0 : decide (200 < (l5.length : Int)) = true := decide_eq_true c3498
          have c3498b1 : decide (200 < l5.length) = true := decide_eq_true (by omega)
          clear c3498
          go_wp2_with fail
          obtain ⟨t2504, HA3499, H⟩ := bind_some H
          refine (quitrentlaw10_begun.calls _ t2504 _ ⟨Sep.start _⟩ HA3499).mono ?_
          rintro e_ w3500 ⟨rfl, hS⟩
          replace HS : Aside0 (Sep (fps []) w [b1 g9 a1 a2 a3 a4] w3500) := ⟨HS.out.call hS⟩
          clear hS
          replace HS : Aside0 (Sep (fps []) w [] w3500) := ⟨HS.out.sub (.cons _ .slnil)⟩
          go_wp2_with fail
          go_ret
          rw [← some_eq H]
          exact ⟨(by first | rfl | (simp [IntKind.wrap_u32]; done)), HS.out⟩
        · replace H := if_no c3498 H
          have c3498b0 : decide (200 < (l5.length : Int)) = false := decide_eq_false c3498
          have c3498b1 : decide (200 < l5.length) = false := decide_eq_false (by omega)
          clear c3498
          by_cases c3501 : t808 = 0
          · replace H := if_yes c3501 H
            have c3501b0 : (t808 == 0) = true := beq_iff_eq.mpr c3501
            have c3501b1 : (t808 != 0) = false := bne_eq_false_iff_eq.mpr c3501
            clear c3501
            exact (none_no H).elim
          · replace H := if_no c3501 H
            have c3501b0 : (t808 == 0) = false := beq_eq_false_iff_ne.mpr c3501
            have c3501b1 : (t808 != 0) = true := bne_iff_ne.mpr c3501
            clear c3501
            replace HS : Aside0 (Sep (fps []) w [] w3496) := ⟨HS.out.sub (.cons _ .slnil)⟩
            go_wp2_with fail
            go_ret
            rw [← some_eq H]
            exact ⟨(by first | rfl | (simp [IntKind.wrap_u32]; done)), HS.out⟩
      · replace H := if_no c3497 H
        have c3497b0 : t853 = false := by simpa using c3497
        have c3497b1 : (!t853) = true := by rw [c3497b0]; rfl
        try rw [c3497b1]
        clear c3497
        go_wp2_with fail
        obtain ⟨t2504, HA3502, H⟩ := bind_some H
        refine (quitrentlaw10_begun.calls _ t2504 _ ⟨Sep.start _⟩ HA3502).mono ?_
        rintro e_ w3503 ⟨rfl, hS⟩
        replace HS : Aside0 (Sep (fps []) w [b1 g9 a1 a2 a3 a4] w3503) := ⟨HS.out.call hS⟩
        clear hS
        replace HS : Aside0 (Sep (fps []) w [] w3503) := ⟨HS.out.sub (.cons _ .slnil)⟩
        go_wp2_with fail
        go_ret
        rw [← some_eq H]
        exact ⟨(by first | rfl | (simp [IntKind.wrap_u32]; done)), HS.out⟩
    · replace H := if_no c3490 H
      have c3490b0 : t833 = false := by simpa using c3490
      have c3490b1 : (!t833) = true := by rw [c3490b0]; rfl
      try rw [c3490b1]
      clear c3490
      go_wp2_with fail
      obtain ⟨t2504, HA3504, H⟩ := bind_some H
      refine (quitrentlaw10_begun.calls _ t2504 _ ⟨Sep.start _⟩ HA3504).mono ?_
      rintro e_ w3505 ⟨rfl, hS⟩
      replace HS : Aside0 (Sep (fps []) w [b1 g9 a1 a2 a3 a4] w3505) := ⟨HS.out.call hS⟩
      clear hS
      replace HS : Aside0 (Sep (fps []) w [] w3505) := ⟨HS.out.sub (.cons _ .slnil)⟩
      go_wp2_with fail
      go_ret
      rw [← some_eq H]
      exact ⟨(by first | rfl | (simp [IntKind.wrap_u32]; done)), HS.out⟩
end Go.Proofs.Ytobeonkddamnoaa.C

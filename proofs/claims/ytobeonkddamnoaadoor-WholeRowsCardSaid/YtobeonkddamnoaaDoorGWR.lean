/- Each function of the group WR does what its plain function says, and changes nothing that was there; proved by walking its code. No condition. -/
import Derived.Test.YtobeonkddamnoaaDoorQw
import Derived.Test.YtobeonkddamnoaaDoorMWR
import Derived.Test.YtobeonkddamnoaaDoorGWR0
import Derived.Test.YtobeonkddamnoaaDoorGWR1
import Derived.Test.YtobeonkddamnoaaDoorGWR2
import Derived.Test.YtobeonkddamnoaaDoorGWR3
namespace Go.Proofs.YtobeonkddamnoaaDoor.C
open Go.RowKit Go.Proofs.YtobeonkddamnoaaDoorW.PrintWords Go.Proofs.YtobeonkddamnoaaDoorW.PrintLast Go.Proofs.YtobeonkddamnoaaDoor.Q Go.Proofs.YtobeonkddamnoaaDoor.M
set_option linter.unusedVariables false
set_option linter.unusedSimpArgs false
set_option maxHeartbeats 30000000 in
set_option maxRecDepth 100000 in
theorem quitrenttop_WholeRows.calls (k : Nat) (l1 : List (Int × Int)) (l5 : List Int) (a9 : Int) (A2 : Option Addr) (n3 : Nat) (A6 : Option Addr) (n7 : Nat) (r : Bool) (w : World) (HR4 : Aside0 (Rd s17 (fps []) w A2 l1.length l1)) (HR8 : Aside0 (Rd (Kd.int .u8) (fps []) w A6 l5.length l5)) (HGl0 : Aside0 (Gl 0 #[.int .i64 0, .int .i64 0, .int .i64 0, .int .i64 0, .int .i64 0] (fps []) w)) (HS : Aside0 (Sep (fps []) w [] w)) (H : Aside0 (quitrenttop_WholeRows.f k l1 l5 a9 = some r)) :
    Calls Tryd.prog 13 #[.slice A2 l1.length n3, .slice A6 l5.length n7, .int .u32 a9] w fun e w' => e = .returned (.bool r) ∧ Sep (fps []) w [] w' := by
  unfold quitrenttop_WholeRows.f at H
  go_enter Tryd.func13, Tryd.ntmps13
  go_wp2_with fail
  obtain ⟨t3099, HA3100, H⟩ := bind_some H
  refine (quitrenttop_awakeRow.calls _ t3099 _ ⟨HGl0.out.pass (l := []) HS.out⟩ ⟨Sep.start _⟩ HA3100).mono ?_
  rintro e_ w3101 ⟨rfl, hS⟩
  replace HS : Aside0 (Sep (fps []) w [] w3101) := ⟨HS.out.call hS⟩
  clear hS
  by_cases c3102 : t3099 = true
  · replace H := if_yes c3102 H
    have c3102b0 : t3099 = true := c3102
    have c3102b1 : (!t3099) = false := by rw [c3102b0]; rfl
    try rw [c3102b1]
    clear c3102
    by_cases c3103 : (l1.length : Int) < 1
    · replace H := if_yes c3103 H
      have c3103b0 : decide ((l1.length : Int) < 1) = true := decide_eq_true c3103
      have c3103b1 : decide (l1.length < 1) = true := decide_eq_true (by omega)
      clear c3103
      go_wp2_with fail
      obtain ⟨t3104, HA3105, H⟩ := bind_some H
      refine (quitrenttop_awakeRow.calls _ t3104 _ ⟨HGl0.out.pass (l := []) HS.out⟩ ⟨Sep.start _⟩ HA3105).mono ?_
      rintro e_ w3106 ⟨rfl, hS⟩
      replace HS : Aside0 (Sep (fps []) w [] w3106) := ⟨HS.out.call hS⟩
      clear hS
      go_wp2_with fail
      go_ret
      rw [← some_eq H]
      exact ⟨(by first | rfl | (simp [IntKind.wrap_u32]; done)), HS.out⟩
    · replace H := if_no c3103 H
      have c3103b0 : decide ((l1.length : Int) < 1) = false := decide_eq_false c3103
      have c3103b1 : decide (l1.length < 1) = false := decide_eq_false (by omega)
      clear c3103
      by_cases c3107 : (l1.length : Int) > 20
      · replace H := if_yes c3107 H
        have c3107b0 : decide (20 < (l1.length : Int)) = true := decide_eq_true c3107
        have c3107b1 : decide (20 < l1.length) = true := decide_eq_true (by omega)
        clear c3107
        go_wp2_with fail
        obtain ⟨t3104, HA3108, H⟩ := bind_some H
        refine (quitrenttop_awakeRow.calls _ t3104 _ ⟨HGl0.out.pass (l := []) HS.out⟩ ⟨Sep.start _⟩ HA3108).mono ?_
        rintro e_ w3109 ⟨rfl, hS⟩
        replace HS : Aside0 (Sep (fps []) w [] w3109) := ⟨HS.out.call hS⟩
        clear hS
        go_wp2_with fail
        go_ret
        rw [← some_eq H]
        exact ⟨(by first | rfl | (simp [IntKind.wrap_u32]; done)), HS.out⟩
      · replace H := if_no c3107 H
        have c3107b0 : decide (20 < (l1.length : Int)) = false := decide_eq_false c3107
        have c3107b1 : decide (20 < l1.length) = false := decide_eq_false (by omega)
        clear c3107
        by_cases c3110 : (l5.length : Int) > 200
        · replace H := if_yes c3110 H
          have c3110b0 : decide (200 < (l5.length : Int)) = true := decide_eq_true c3110
          have c3110b1 : decide (200 < l5.length) = true := decide_eq_true (by omega)
          clear c3110
          go_wp2_with fail
          obtain ⟨t3104, HA3111, H⟩ := bind_some H
          refine (quitrenttop_awakeRow.calls _ t3104 _ ⟨HGl0.out.pass (l := []) HS.out⟩ ⟨Sep.start _⟩ HA3111).mono ?_
          rintro e_ w3112 ⟨rfl, hS⟩
          replace HS : Aside0 (Sep (fps []) w [] w3112) := ⟨HS.out.call hS⟩
          clear hS
          go_wp2_with fail
          go_ret
          rw [← some_eq H]
          exact ⟨(by first | rfl | (simp [IntKind.wrap_u32]; done)), HS.out⟩
        · replace H := if_no c3110 H
          have c3110b0 : decide (200 < (l5.length : Int)) = false := decide_eq_false c3110
          have c3110b1 : decide (200 < l5.length) = false := decide_eq_false (by omega)
          clear c3110
          go_wp2_with fail
          obtain ⟨t3113, HA3114, H⟩ := bind_some H
          rcases t3113 with t3115 | (t3116 | t3117)
          · have H := sum_l H
            refine (ground_New.calls _ 60 16 1 1 (.inl t3115) _ ⟨HGl0.out.pass (l := []) HS.out⟩ ⟨Sep.start _⟩ HA3114).mono ?_
            rintro e_ w3118 ⟨rfl, hS⟩
            replace HS : Aside0 (Sep (fps []) w [] w3118) := ⟨HS.out.call hS⟩
            clear hS
            go_wp2_with fail
            go_ret
            rw [← some_eq H]
            exact ⟨(by first | rfl | (simp [IntKind.wrap_u32]; done)), HS.out⟩
          · have H := sum_r H
            have H := sum_l H
            refine (ground_New.calls _ 60 16 1 1 (.inr (.inl t3116)) _ ⟨HGl0.out.pass (l := []) HS.out⟩ ⟨Sep.start _⟩ HA3114).mono ?_
            rintro e_ w3119 ⟨g3123, rfl, g3124, A3125, m3126, n3127, hS⟩
            replace HS : Aside0 (Sep (fps []) w [b7 g3123 g3124 t3116.1 t3116.2.1 t3116.2.2.1 t3116.2.2.2.1, b6 g3124 A3125 m3126 n3127 0, r5 A3125 m3126 n3127 t3116.2.2.2.2] w3119) := ⟨HS.out.call hS⟩
            clear hS
            obtain rfl := (row_len (HS.out.at2)).symm
            go_wp2_with fail
            obtain ⟨t3129, HA3130, H⟩ := bind_some H
            refine (pool_Open.calls _ t3116.2.2.2.2 0 t3116.1 t3116.2.1 t3116.2.2.1 t3116.2.2.2.1 g3123 g3124 A3125 ((t3116.2.2.2.2).length) n3127 t3129 _ ⟨HGl0.out.pass HS.out⟩ ⟨HS.out.begin⟩ HA3130).mono ?_
            rintro e_ w3131 ⟨rfl, hS⟩
            replace HS : Aside0 (Sep (fps []) w [b7 g3123 g3124 t3116.1 t3116.2.1 t3116.2.2.1 t3116.2.2.2.1, b6 g3124 A3125 ((t3116.2.2.2.2).length) n3127 t3129.2.1, r5 A3125 ((t3116.2.2.2.2).length) n3127 t3129.2.2] w3131) := ⟨HS.out.call hS⟩
            clear hS
            by_cases c3132 : t3129.1 = true
            · replace H := if_yes c3132 H
              have c3132b0 : t3129.1 = true := c3132
              have c3132b1 : (!t3129.1) = false := by rw [c3132b0]; rfl
              try rw [c3132b1]
              clear c3132
              go_wp2_with fail
              replace HS : Aside0 (Sep (fps []) w [r16 none 0 0 [], b7 g3123 g3124 t3116.1 t3116.2.1 t3116.2.2.1 t3116.2.2.2.1, b6 g3124 A3125 ((t3116.2.2.2.2).length) n3127 t3129.2.1, r5 A3125 ((t3116.2.2.2.2).length) n3127 t3129.2.2] w3131) := ⟨HS.out.nilrow 3 (Value.int .i64)⟩
              obtain ⟨o3642, AL3643, H⟩ := bind_some H
              go_loopg [9, 10, 60] k (fun kq v9 v10 v60 wc => ∃ (x3648 : Int) (x3649 : Int) (x3650 : List Int) (x3655 : List Int) (x3656 : Int) (A3651 : Option Addr) (m3652 : Nat) (n3653 : Nat), v9 = .slice A3651 m3652 n3653 ∧ v10 = .int .i64 x3648 ∧ v60 = .int .i64 x3649 ∧ Aside0 (quitrenttop_WholeRows.lo0 kq l1 a9 t3116 x3648 x3649 x3650 x3655 x3656 = some o3642) ∧ Aside0 (Sep (fps []) w [r16 A3651 m3652 n3653 x3650, b7 g3123 g3124 t3116.1 t3116.2.1 t3116.2.2.1 t3116.2.2.2.1, b6 g3124 A3125 ((t3116.2.2.2.2).length) n3127 x3656, r5 A3125 ((t3116.2.2.2.2).length) n3127 x3655] wc))
              case atStart => exact ⟨(0), (0), (([] : List Int)), (t3129.2.2), (t3129.2.1), (none), (0), (0), (by first | rfl | (simp [IntKind.wrap_u32]; done)), (by first | rfl | (simp [IntKind.wrap_u32]; done)), (by first | rfl | (simp [IntKind.wrap_u32]; done)), AL3643, ⟨HS.out⟩⟩
              case round =>
                clear AL3643 HS
                obtain ⟨x3648, x3649, x3650, x3655, x3656, A3651, m3652, n3653, rfl, rfl, rfl, AL3643, HS⟩ := hrel
                obtain ⟨w3644, rfl⟩ : ∃ x : World, x = wr := ⟨_, rfl⟩
                obtain rfl := (row_len (HS.out.at0)).symm
                cases gk with
                | zero => exact absurd AL3643.out (by simp [quitrenttop_WholeRows.lo0])
                | succ k3645 =>
                  have AL0 := AL3643.out
                  rw [quitrenttop_WholeRows.lo0] at AL0
                  clear AL3643
                  have AL3643 := Aside0.mk AL0
                  clear AL0
                  by_cases c3657 : x3649 < (l1.length : Int)
                  · replace AL3643 := if_yes c3657 AL3643
                    have c3657b0 : decide (x3649 < (l1.length : Int)) = true := decide_eq_true c3657
                    clear c3657
                    by_cases c3658 : 0 ≤ x3649
                    · replace AL3643 := if_yes c3658 AL3643
                      have c3658b0 : decide (0 ≤ x3649) = true := decide_eq_true c3658
                      have c3658p : (0 ≤ x3649) = True := eq_true c3658
                      clear c3658
                      have ip3659 : (x3649 < (l1.length : Int)) = True := eq_true (of_decide_eq_true c3657b0)
                      obtain ⟨hx3660a, hx3660e, hx3661, hx3662⟩ := s17_at HR4.out HS.out.fr x3649 (of_decide_eq_true c3658b0) (of_decide_eq_true c3657b0); cases hx3660e
                      go_wp2_with (first | ((with_reducible refine gate_dst (N := 12) rfl ?_); refine box_on ?hg (N := 12) ?hd (cs := #[.int .i64 0, .int .i64 0]) (t := 63) ?hr ?_; (case hd => rfl); (case hg => rfl); (case hr => first | (go_simp; done) | (go_simp; rfl)); intro g3663 hg w3664 hbox hb; clear hx3661 hx3662; replace HS : Aside0 (Sep (fps []) w [r16 A3651 x3650.length n3653 x3650, b7 g3123 g3124 t3116.1 t3116.2.1 t3116.2.2.1 t3116.2.2.2.1, b6 g3124 A3125 ((t3116.2.2.2.2).length) n3127 x3656, r5 A3125 ((t3116.2.2.2.2).length) n3127 x3655, b18 g3663 0 0] w3664) := ⟨HS.out.box hg hbox hb⟩; clear hg hbox hb; have hc3666 : w3664.cell? ⟨g3663, 0, none⟩ = some (.int .i64 0) := blk_cellv (HS.out.at4) 0 rfl; have hz3667 : w3664.frozen? ⟨g3663, 0, none⟩ = false := blk_fz (HS.out.at4) 0; have hc3668 : w3664.cell? ⟨g3663, 1, none⟩ = some (.int .i64 0) := blk_cellv (HS.out.at4) 1 rfl; have hz3669 : w3664.frozen? ⟨g3663, 1, none⟩ = false := blk_fz (HS.out.at4) 1) | ((with_reducible refine gate_store (t := 63) (p := 12) rfl ?_); refine store_event (w1 := (World.setCell (World.setCell w3664 ⟨g3663, 0, none⟩ (.int .i64 ((rdOf (0, 0) l1 x3649).1))) ⟨g3663, 1, none⟩ (.int .i64 ((rdOf (0, 0) l1 x3649).2)))) rfl (t := 63) (p := 12) rfl rfl ?hr ?_; (case hr => first | (go_simp; done) | (go_simp; rfl)); intro w3670 hst; clear hc3666 hz3667 hc3668 hz3669; have hq0 : Sep (fps []) w [r16 A3651 x3650.length n3653 x3650, b7 g3123 g3124 t3116.1 t3116.2.1 t3116.2.2.1 t3116.2.2.2.1, b6 g3124 A3125 ((t3116.2.2.2.2).length) n3127 x3656, r5 A3125 ((t3116.2.2.2.2).length) n3127 x3655, b18 g3663 ((rdOf (0, 0) l1 x3649).1) 0] (World.setCell w3664 ⟨g3663, 0, none⟩ (.int .i64 ((rdOf (0, 0) l1 x3649).1))) := (HS.out).set1 (l1 := [r16 A3651 x3650.length n3653 x3650, b7 g3123 g3124 t3116.1 t3116.2.1 t3116.2.2.1 t3116.2.2.2.1, b6 g3124 A3125 ((t3116.2.2.2.2).length) n3127 x3656, r5 A3125 ((t3116.2.2.2.2).length) n3127 x3655]) (l2 := []) 0 (.int .i64 ((rdOf (0, 0) l1 x3649).1)); have hq1 : Sep (fps []) w [r16 A3651 x3650.length n3653 x3650, b7 g3123 g3124 t3116.1 t3116.2.1 t3116.2.2.1 t3116.2.2.2.1, b6 g3124 A3125 ((t3116.2.2.2.2).length) n3127 x3656, r5 A3125 ((t3116.2.2.2.2).length) n3127 x3655, b18 g3663 ((rdOf (0, 0) l1 x3649).1) ((rdOf (0, 0) l1 x3649).2)] (World.setCell (World.setCell w3664 ⟨g3663, 0, none⟩ (.int .i64 ((rdOf (0, 0) l1 x3649).1))) ⟨g3663, 1, none⟩ (.int .i64 ((rdOf (0, 0) l1 x3649).2))) := (hq0).set1 (l1 := [r16 A3651 x3650.length n3653 x3650, b7 g3123 g3124 t3116.1 t3116.2.1 t3116.2.2.1 t3116.2.2.2.1, b6 g3124 A3125 ((t3116.2.2.2.2).length) n3127 x3656, r5 A3125 ((t3116.2.2.2.2).length) n3127 x3655]) (l2 := []) 1 (.int .i64 ((rdOf (0, 0) l1 x3649).2)); replace HS : Aside0 (Sep (fps []) w [r16 A3651 x3650.length n3653 x3650, b7 g3123 g3124 t3116.1 t3116.2.1 t3116.2.2.1 t3116.2.2.2.1, b6 g3124 A3125 ((t3116.2.2.2.2).length) n3127 x3656, r5 A3125 ((t3116.2.2.2.2).length) n3127 x3655, b18 g3663 ((rdOf (0, 0) l1 x3649).1) ((rdOf (0, 0) l1 x3649).2)] w3670) := ⟨by rw [hst]; exact hq1⟩; clear hq0 hq1; clear hst; have hc3671 : w3670.cell? ⟨g3663, 0, none⟩ = some (.int .i64 ((rdOf (0, 0) l1 x3649).1)) := blk_cellv (HS.out.at4) 0 rfl; have hc3672 : w3670.cell? ⟨g3663, 1, none⟩ = some (.int .i64 ((rdOf (0, 0) l1 x3649).2)) := blk_cellv (HS.out.at4) 1 rfl))
                      clear hc3671 hc3672
                      replace HS : Aside0 (Sep (fps []) w [r5 A3125 ((t3116.2.2.2.2).length) n3127 x3655, r16 A3651 x3650.length n3653 x3650, b7 g3123 g3124 t3116.1 t3116.2.1 t3116.2.2.1 t3116.2.2.2.1, b6 g3124 A3125 ((t3116.2.2.2.2).length) n3127 x3656, b18 g3663 ((rdOf (0, 0) l1 x3649).1) ((rdOf (0, 0) l1 x3649).2)] w3670) := ⟨HS.out.front 3 (by simp)⟩
                      replace HS : Aside0 (Sep (fps []) w [b6 g3124 A3125 ((t3116.2.2.2.2).length) n3127 x3656, r5 A3125 ((t3116.2.2.2.2).length) n3127 x3655, r16 A3651 x3650.length n3653 x3650, b7 g3123 g3124 t3116.1 t3116.2.1 t3116.2.2.1 t3116.2.2.2.1, b18 g3663 ((rdOf (0, 0) l1 x3649).1) ((rdOf (0, 0) l1 x3649).2)] w3670) := ⟨HS.out.front 3 (by simp)⟩
                      replace HS : Aside0 (Sep (fps []) w [b7 g3123 g3124 t3116.1 t3116.2.1 t3116.2.2.1 t3116.2.2.2.1, b6 g3124 A3125 ((t3116.2.2.2.2).length) n3127 x3656, r5 A3125 ((t3116.2.2.2.2).length) n3127 x3655, r16 A3651 x3650.length n3653 x3650, b18 g3663 ((rdOf (0, 0) l1 x3649).1) ((rdOf (0, 0) l1 x3649).2)] w3670) := ⟨HS.out.front 3 (by simp)⟩
                      obtain ⟨t3163, HA3673, AL3643⟩ := bind_some AL3643
                      refine (obj_Make.calls _ x3655 x3656 t3116.1 t3116.2.1 t3116.2.2.1 t3116.2.2.2.1 ((rdOf (0, 0) l1 x3649).1) ((rdOf (0, 0) l1 x3649).2) g3123 g3124 A3125 ((t3116.2.2.2.2).length) n3127 t3163 _ ⟨HGl0.out.pass HS.out⟩ ⟨HS.out.begin⟩ HA3673).mono ?_
                      rintro e_ w3674 ⟨rfl, hS⟩
                      replace HS : Aside0 (Sep (fps []) w [b7 g3123 g3124 t3116.1 t3116.2.1 t3116.2.2.1 t3116.2.2.2.1, b6 g3124 A3125 ((t3116.2.2.2.2).length) n3127 t3163.2.2.1, r5 A3125 ((t3116.2.2.2.2).length) n3127 t3163.2.2.2, r16 A3651 x3650.length n3653 x3650, b18 g3663 ((rdOf (0, 0) l1 x3649).1) ((rdOf (0, 0) l1 x3649).2)] w3674) := ⟨HS.out.call hS⟩
                      clear hS
                      by_cases c3675 : t3163.2.1 = 0
                      · replace AL3643 := if_yes c3675 AL3643
                        have c3675b0 : (t3163.2.1 == 0) = true := beq_iff_eq.mpr c3675
                        have c3675b1 : (t3163.2.1 != 0) = false := bne_eq_false_iff_eq.mpr c3675
                        clear c3675
                        by_cases c3679 : x3650.length < 17592186044416
                        · replace AL3643 := if_yes c3679 AL3643
                          have c3679b0 : decide (x3650.length < 17592186044416) = true := decide_eq_true c3679
                          clear c3679
                          obtain ⟨y3174, HA3683, AL3643⟩ := bind_some AL3643
                          replace HS : Aside0 (Sep (fps []) w [b7 g3123 g3124 t3116.1 t3116.2.1 t3116.2.2.1 t3116.2.2.2.1, b6 g3124 A3125 ((t3116.2.2.2.2).length) n3127 t3163.2.2.1, r5 A3125 ((t3116.2.2.2.2).length) n3127 t3163.2.2.2, r16 A3651 x3650.length n3653 x3650] w3674) := ⟨HS.out.sub (.cons_cons _ (.cons_cons _ (.cons_cons _ (.cons_cons _ (.cons _ .slnil)))))⟩
                          go_wp2_with (first | ((with_reducible refine gate_dst (N := 78) rfl ?_); refine slice_on (n := 1) ?hg (N := 78) ?hd (cs := #[.int .i64 t3163.1]) (t := 3) ?hr ?_; (case hd => rfl); (case hg => rfl); (case hr => first | (go_simp; done) | (go_simp; rfl)); intro g3676 hg w3677 hbox hb; replace HS : Aside0 (Sep (fps []) w [b7 g3123 g3124 t3116.1 t3116.2.1 t3116.2.2.1 t3116.2.2.2.1, b6 g3124 A3125 ((t3116.2.2.2.2).length) n3127 t3163.2.2.1, r5 A3125 ((t3116.2.2.2.2).length) n3127 t3163.2.2.2, r16 A3651 x3650.length n3653 x3650, b10 g3676 t3163.1] w3677) := ⟨HS.out.box hg hbox hb⟩; clear hg hbox hb) | ((with_reducible refine gate_dst (N := 79) rfl ?_); refine append_event (l1 := [b7 g3123 g3124 t3116.1 t3116.2.1 t3116.2.2.1 t3116.2.2.2.1, b6 g3124 A3125 ((t3116.2.2.2.2).length) n3127 t3163.2.2.1, r5 A3125 ((t3116.2.2.2.2).length) n3127 t3163.2.2.2]) (l2 := [b10 g3676 t3163.1]) rfl (.tmp 76) (.tmp 78) 49 3 (.int .i64 0) 8 rfl Tryd.underlying49 (by kernel_rfl) rfl (by decide) (Value.int .i64) (fun _ => rfl) (.slice A3651 x3650.length n3653) (x3650 : List Int) [t3163.1] ⟨g3676, 0, none⟩ 1 rfl rfl (blk_news (xs := [t3163.1]) (HS.out.at4)) HS.out (by have := of_decide_eq_true c3679b0; simp only [List.length_cons, List.length_nil]; omega) HA3683 ?_; intro A3680 n3681 w3682 HS1; replace HS : Aside0 (Sep (fps []) w [b7 g3123 g3124 t3116.1 t3116.2.1 t3116.2.2.1 t3116.2.2.2.1, b6 g3124 A3125 ((t3116.2.2.2.2).length) n3127 t3163.2.2.1, r5 A3125 ((t3116.2.2.2.2).length) n3127 t3163.2.2.2, r16 A3680 y3174.length n3681 y3174, b10 g3676 t3163.1] w3682) := ⟨HS1⟩; clear HS1; replace HS : Aside0 (Sep (fps []) w [b7 g3123 g3124 t3116.1 t3116.2.1 t3116.2.2.1 t3116.2.2.2.1, b6 g3124 A3125 ((t3116.2.2.2.2).length) n3127 t3163.2.2.1, r5 A3125 ((t3116.2.2.2.2).length) n3127 t3163.2.2.2, r16 A3680 y3174.length n3681 y3174] w3682) := ⟨HS.out.sub (.cons_cons _ (.cons_cons _ (.cons_cons _ (.cons_cons _ (.cons _ .slnil)))))⟩))
                          obtain ⟨t3318, HA3685, AL3643⟩ := bind_some AL3643
                          refine (obj_Blocks.calls _ t3163.2.2.2 t3163.2.2.1 t3116.1 t3116.2.1 t3116.2.2.1 t3116.2.2.2.1 t3163.1 g3123 g3124 A3125 ((t3116.2.2.2.2).length) n3127 t3318 _ ⟨HGl0.out.pass HS.out⟩ ⟨HS.out.begin⟩ HA3685).mono ?_
                          rintro e_ w3686 ⟨rfl, hS⟩
                          replace HS : Aside0 (Sep (fps []) w [b7 g3123 g3124 t3116.1 t3116.2.1 t3116.2.2.1 t3116.2.2.2.1, b6 g3124 A3125 ((t3116.2.2.2.2).length) n3127 t3318.2, r5 A3125 ((t3116.2.2.2.2).length) n3127 t3163.2.2.2, r16 A3680 y3174.length n3681 y3174] w3686) := ⟨HS.out.call hS⟩
                          clear hS
                          go_wp2_with fail
                          obtain ⟨t3584, HA3687, AL3643⟩ := bind_some AL3643
                          refine (obj_SetPtr.calls _ t3163.2.2.2 t3318.2 t3116.1 t3116.2.1 t3116.2.2.1 t3116.2.2.2.1 t3163.1 0 t3163.1 g3123 g3124 A3125 ((t3116.2.2.2.2).length) n3127 t3584 _ ⟨HGl0.out.pass HS.out⟩ ⟨HS.out.begin⟩ HA3687).mono ?_
                          rintro e_ w3688 ⟨rfl, hS⟩
                          replace HS : Aside0 (Sep (fps []) w [b7 g3123 g3124 t3116.1 t3116.2.1 t3116.2.2.1 t3116.2.2.2.1, b6 g3124 A3125 ((t3116.2.2.2.2).length) n3127 t3584.2.1, r5 A3125 ((t3116.2.2.2.2).length) n3127 t3584.2.2, r16 A3680 y3174.length n3681 y3174] w3688) := ⟨HS.out.call hS⟩
                          clear hS
                          go_wp2_with fail
                          obtain ⟨t3639, HA3689, AL3643⟩ := bind_some AL3643
                          refine (obj_SetData.calls _ t3584.2.2 t3584.2.1 t3116.1 t3116.2.1 t3116.2.2.1 t3116.2.2.2.1 t3163.1 0 ((a9 + x3649) % 4294967296) g3123 g3124 A3125 ((t3116.2.2.2.2).length) n3127 t3639 _ ⟨HGl0.out.pass HS.out⟩ ⟨HS.out.begin⟩ HA3689).mono ?_
                          rintro e_ w3690 ⟨rfl, hS⟩
                          replace HS : Aside0 (Sep (fps []) w [b7 g3123 g3124 t3116.1 t3116.2.1 t3116.2.2.1 t3116.2.2.2.1, b6 g3124 A3125 ((t3116.2.2.2.2).length) n3127 t3639.2.1, r5 A3125 ((t3116.2.2.2.2).length) n3127 t3639.2.2, r16 A3680 y3174.length n3681 y3174] w3690) := ⟨HS.out.call hS⟩
                          clear hS
                          go_wp2_with fail
                          go_roundg k3645
                          case measure => exact Nat.lt_succ_self _
                          case rel => exact ⟨(wrap64 (x3648 + t3318.1)), (wrap64 (x3649 + 1)), (y3174), (t3639.2.2), (t3639.2.1), (A3680), (y3174.length), (n3681), (by first | rfl | (simp [IntKind.wrap_u32]; done)), (by first | rfl | (simp [IntKind.wrap_u32]; done)), (by first | rfl | (simp [IntKind.wrap_u32]; done)), Aside0.mk AL3643.out, ⟨(((((HS.out).front 2 (by simp)).front 2 (by simp)).front 2 (by simp)).front 3 (by simp)).keep (l := [r16 A3680 y3174.length n3681 y3174, b7 g3123 g3124 t3116.1 t3116.2.1 t3116.2.2.1 t3116.2.2.2.1, b6 g3124 A3125 ((t3116.2.2.2.2).length) n3127 t3639.2.1, r5 A3125 ((t3116.2.2.2.2).length) n3127 t3639.2.2]) (rest := [])⟩⟩
                        · replace AL3643 := if_no c3679 AL3643
                          have c3679b0 : decide (x3650.length < 17592186044416) = false := decide_eq_false c3679
                          clear c3679
                          exact (none_no AL3643).elim
                      · replace AL3643 := if_no c3675 AL3643
                        have c3675b0 : (t3163.2.1 == 0) = false := beq_eq_false_iff_ne.mpr c3675
                        have c3675b1 : (t3163.2.1 != 0) = true := bne_iff_ne.mpr c3675
                        clear c3675
                        replace HS : Aside0 (Sep (fps []) w [b7 g3123 g3124 t3116.1 t3116.2.1 t3116.2.2.1 t3116.2.2.2.1, b6 g3124 A3125 ((t3116.2.2.2.2).length) n3127 t3163.2.2.1, r5 A3125 ((t3116.2.2.2.2).length) n3127 t3163.2.2.2, r16 A3651 x3650.length n3653 x3650] w3674) := ⟨HS.out.sub (.cons_cons _ (.cons_cons _ (.cons_cons _ (.cons_cons _ (.cons _ .slnil)))))⟩
                        go_wp2_with fail
                        go_roundg k3645
                        case measure => exact Nat.lt_succ_self _
                        case rel => exact ⟨(x3648), (wrap64 (x3649 + 1)), (x3650), (t3163.2.2.2), (t3163.2.2.1), (A3651), (x3650.length), (n3653), (by first | rfl | (simp [IntKind.wrap_u32]; done)), (by first | rfl | (simp [IntKind.wrap_u32]; done)), (by first | rfl | (simp [IntKind.wrap_u32]; done)), Aside0.mk AL3643.out, ⟨(((((HS.out).front 2 (by simp)).front 2 (by simp)).front 2 (by simp)).front 3 (by simp)).keep (l := [r16 A3651 x3650.length n3653 x3650, b7 g3123 g3124 t3116.1 t3116.2.1 t3116.2.2.1 t3116.2.2.2.1, b6 g3124 A3125 ((t3116.2.2.2.2).length) n3127 t3163.2.2.1, r5 A3125 ((t3116.2.2.2.2).length) n3127 t3163.2.2.2]) (rest := [])⟩⟩
                    · replace AL3643 := if_no c3658 AL3643
                      have c3658b0 : decide (0 ≤ x3649) = false := decide_eq_false c3658
                      clear c3658
                      exact (none_no AL3643).elim
                  · replace AL3643 := if_no c3657 AL3643
                    have c3657b0 : decide (x3649 < (l1.length : Int)) = false := decide_eq_false c3657
                    clear c3657
                    have ho := some_eq AL3643
                    subst ho
                    clear AL3643
                    by_cases c3691 : (x3650.length : Int) = 0
                    · replace H := if_yes c3691 H
                      have c3691b0 : ((x3650.length : Int) == 0) = true := beq_iff_eq.mpr c3691
                      have c3691b1 : ((x3650.length : Int) != 0) = false := bne_eq_false_iff_eq.mpr c3691
                      clear c3691
                      go_wp2_with fail
                      replace HS : Aside0 (Sep (fps []) w [r5 A3125 ((t3116.2.2.2.2).length) n3127 x3655, r16 A3651 x3650.length n3653 x3650, b7 g3123 g3124 t3116.1 t3116.2.1 t3116.2.2.1 t3116.2.2.2.1, b6 g3124 A3125 ((t3116.2.2.2.2).length) n3127 x3656] w3644) := ⟨HS.out.front 3 (by simp)⟩
                      replace HS : Aside0 (Sep (fps []) w [b6 g3124 A3125 ((t3116.2.2.2.2).length) n3127 x3656, r5 A3125 ((t3116.2.2.2.2).length) n3127 x3655, r16 A3651 x3650.length n3653 x3650, b7 g3123 g3124 t3116.1 t3116.2.1 t3116.2.2.1 t3116.2.2.2.1] w3644) := ⟨HS.out.front 3 (by simp)⟩
                      replace HS : Aside0 (Sep (fps []) w [b7 g3123 g3124 t3116.1 t3116.2.1 t3116.2.2.1 t3116.2.2.2.1, b6 g3124 A3125 ((t3116.2.2.2.2).length) n3127 x3656, r5 A3125 ((t3116.2.2.2.2).length) n3127 x3655, r16 A3651 x3650.length n3653 x3650] w3644) := ⟨HS.out.front 3 (by simp)⟩
                      obtain ⟨t3692, HA3693, H⟩ := bind_some H
                      refine (pool_Len.calls x3655 x3656 t3116.1 t3116.2.1 t3116.2.2.1 t3116.2.2.2.1 g3123 g3124 A3125 ((t3116.2.2.2.2).length) n3127 t3692 _ ⟨HGl0.out.pass HS.out⟩ ⟨HS.out.begin⟩ HA3693).mono ?_
                      rintro e_ w3694 ⟨rfl, hS⟩
                      replace HS : Aside0 (Sep (fps []) w [b7 g3123 g3124 t3116.1 t3116.2.1 t3116.2.2.1 t3116.2.2.2.1, b6 g3124 A3125 ((t3116.2.2.2.2).length) n3127 t3692.2, r5 A3125 ((t3116.2.2.2.2).length) n3127 x3655, r16 A3651 x3650.length n3653 x3650] w3694) := ⟨HS.out.call hS⟩
                      clear hS
                      replace HS : Aside0 (Sep (fps []) w [] w3694) := ⟨HS.out.sub (.cons _ (.cons _ (.cons _ (.cons _ .slnil))))⟩
                      go_wp2_with fail
                      go_ret
                      rw [← some_eq H]
                      exact ⟨(by first | rfl | (simp [IntKind.wrap_u32]; done)), HS.out⟩
                    · replace H := if_no c3691 H
                      have c3691b0 : ((x3650.length : Int) == 0) = false := beq_eq_false_iff_ne.mpr c3691
                      have c3691b1 : ((x3650.length : Int) != 0) = true := bne_iff_ne.mpr c3691
                      clear c3691
                      go_wp2_with fail
                      replace HS : Aside0 (Sep (fps []) w [r20 none 0 (0, []) [], r16 A3651 x3650.length n3653 x3650, b7 g3123 g3124 t3116.1 t3116.2.1 t3116.2.2.1 t3116.2.2.2.1, b6 g3124 A3125 ((t3116.2.2.2.2).length) n3127 x3656, r5 A3125 ((t3116.2.2.2.2).length) n3127 x3655] w3644) := ⟨HS.out.nilorow 71 3 33 .i64 .u32⟩
                      obtain ⟨o3696, AL3697, H⟩ := bind_some H
                      go_loopg [15, 105] k (fun kq v15 v105 wc => ∃ (x3702 : Int) (x3703 : List (List Int × List Int)) (A3704 : Option Addr) (m3705 : Nat) (n3706 : Nat × List In2), v15 = .slice A3704 m3705 n3706.1 ∧ v105 = .int .i64 x3702 ∧ Aside0 (quitrenttop_WholeRows.lo1 kq t3116 (x3648, x3650, x3655, x3656) x3702 x3703 = some o3696) ∧ Aside0 (Sep (fps []) w [r20 A3704 m3705 n3706 x3703, r16 A3651 x3650.length n3653 x3650, b7 g3123 g3124 t3116.1 t3116.2.1 t3116.2.2.1 t3116.2.2.2.1, b6 g3124 A3125 ((t3116.2.2.2.2).length) n3127 x3656, r5 A3125 ((t3116.2.2.2.2).length) n3127 x3655] wc))
                      case atStart => exact ⟨(0), (([] : List (List Int × List Int))), (none), (0), ((0, [])), (by first | rfl | (simp [IntKind.wrap_u32]; done)), (by first | rfl | (simp [IntKind.wrap_u32]; done)), AL3697, ⟨HS.out⟩⟩
                      case round =>
                        clear AL3697 HS
                        obtain ⟨x3702, x3703, A3704, m3705, n3706, rfl, rfl, AL3697, HS⟩ := hrel
                        obtain ⟨w3698, rfl⟩ : ∃ x : World, x = wr := ⟨_, rfl⟩
                        obtain rfl := (orow_len (HS.out.at0)).symm
                        cases gk with
                        | zero => exact absurd AL3697.out (by simp [quitrenttop_WholeRows.lo1])
                        | succ k3699 =>
                          have AL0 := AL3697.out
                          rw [quitrenttop_WholeRows.lo1] at AL0
                          clear AL3697
                          have AL3697 := Aside0.mk AL0
                          clear AL0
                          by_cases c3708 : x3702 < (x3650.length : Int)
                          · replace AL3697 := if_yes c3708 AL3697
                            have c3708b0 : decide (x3702 < (x3650.length : Int)) = true := decide_eq_true c3708
                            clear c3708
                            by_cases c3709 : 0 ≤ x3702
                            · replace AL3697 := if_yes c3709 AL3697
                              have c3709b0 : decide (0 ≤ x3702) = true := decide_eq_true c3709
                              have c3709p : (0 ≤ x3702) = True := eq_true c3709
                              clear c3709
                              have ip3710 : (x3702 < (x3650.length : Int)) = True := eq_true (of_decide_eq_true c3708b0)
                              obtain ⟨g3711, ea⟩ := row_at (HS.out.at1) (by have := (of_decide_eq_true c3709b0); have := (of_decide_eq_true c3708b0); omega); cases ea
                              have hx3712 := C_at_int (row_Ci (HS.out.at1)) x3702 (of_decide_eq_true c3709b0) (of_decide_eq_true c3708b0)
                              have hx3713 : w3698.cell? ⟨g3711, (x3702).toNat, none⟩ = some (.int .i64 (rd x3650 x3702)) := (row_get 0 (HS.out.at1) x3702 (of_decide_eq_true c3709b0) (of_decide_eq_true c3708b0)).1
                              go_wp2_with fail
                              clear hx3712 hx3713
                              replace HS : Aside0 (Sep (fps []) w [r5 A3125 ((t3116.2.2.2.2).length) n3127 x3655, r20 A3704 x3703.length n3706 x3703, r16 (some ⟨g3711, 0, none⟩) x3650.length n3653 x3650, b7 g3123 g3124 t3116.1 t3116.2.1 t3116.2.2.1 t3116.2.2.2.1, b6 g3124 A3125 ((t3116.2.2.2.2).length) n3127 x3656] w3698) := ⟨HS.out.front 4 (by simp)⟩
                              replace HS : Aside0 (Sep (fps []) w [b6 g3124 A3125 ((t3116.2.2.2.2).length) n3127 x3656, r5 A3125 ((t3116.2.2.2.2).length) n3127 x3655, r20 A3704 x3703.length n3706 x3703, r16 (some ⟨g3711, 0, none⟩) x3650.length n3653 x3650, b7 g3123 g3124 t3116.1 t3116.2.1 t3116.2.2.1 t3116.2.2.2.1] w3698) := ⟨HS.out.front 4 (by simp)⟩
                              replace HS : Aside0 (Sep (fps []) w [b7 g3123 g3124 t3116.1 t3116.2.1 t3116.2.2.1 t3116.2.2.2.1, b6 g3124 A3125 ((t3116.2.2.2.2).length) n3127 x3656, r5 A3125 ((t3116.2.2.2.2).length) n3127 x3655, r20 A3704 x3703.length n3706 x3703, r16 (some ⟨g3711, 0, none⟩) x3650.length n3653 x3650] w3698) := ⟨HS.out.front 4 (by simp)⟩
                              obtain ⟨t4145, HA4146, AL3697⟩ := bind_some AL3697
                              refine (obj_See.calls _ x3655 x3656 t3116.1 t3116.2.1 t3116.2.2.1 t3116.2.2.2.1 (rd x3650 x3702) g3123 g3124 A3125 ((t3116.2.2.2.2).length) n3127 t4145 _ ⟨HGl0.out.pass HS.out⟩ ⟨HS.out.begin⟩ HA4146).mono ?_
                              rintro e_ w4147 ⟨A4150, m4151, n4152, A4154, m4155, n4156, rfl, hS⟩
                              replace HS : Aside0 (Sep (fps []) w [b7 g3123 g3124 t3116.1 t3116.2.1 t3116.2.2.1 t3116.2.2.2.1, b6 g3124 A3125 ((t3116.2.2.2.2).length) n3127 x3656, r5 A3125 ((t3116.2.2.2.2).length) n3127 x3655, r16 A4150 m4151 n4152 t4145.2.1, r5 A4154 m4155 n4156 t4145.2.2, r20 A3704 x3703.length n3706 x3703, r16 (some ⟨g3711, 0, none⟩) x3650.length n3653 x3650] w4147) := ⟨HS.out.call hS⟩
                              clear hS
                              obtain rfl := (row_len (HS.out.at3)).symm
                              obtain rfl := (row_len (HS.out.at4)).symm
                              by_cases c4175 : x3703.length < 2932031007402
                              · replace AL3697 := if_yes c4175 AL3697
                                have c4175b0 : decide (x3703.length < 2932031007402) = true := decide_eq_true c4175
                                clear c4175
                                obtain ⟨y4179, HA4180, AL3697⟩ := bind_some AL3697
                                go_wp2_with (first | ((with_reducible refine gate_dst (N := 18) rfl ?_); refine box_on ?hg (N := 18) ?hd (cs := #[.slice none 0 0, .slice none 0 0]) (t := 71) ?hr ?_; (case hd => rfl); (case hg => rfl); (case hr => first | (go_simp; done) | (go_simp; rfl)); intro g4158 hg w4159 hbox hb; replace HS : Aside0 (Sep (fps []) w [b7 g3123 g3124 t3116.1 t3116.2.1 t3116.2.2.1 t3116.2.2.2.1, b6 g3124 A3125 ((t3116.2.2.2.2).length) n3127 x3656, r5 A3125 ((t3116.2.2.2.2).length) n3127 x3655, r16 A4150 ((t4145.2.1).length) n4152 t4145.2.1, r5 A4154 ((t4145.2.2).length) n4156 t4145.2.2, r20 A3704 x3703.length n3706 x3703, r16 (some ⟨g3711, 0, none⟩) x3650.length n3653 x3650, b21 g4158] w4159) := ⟨HS.out.box hg hbox hb⟩; clear hg hbox hb; replace HS : Aside0 (Sep (fps []) w [r16 none 0 0 [], b7 g3123 g3124 t3116.1 t3116.2.1 t3116.2.2.1 t3116.2.2.2.1, b6 g3124 A3125 ((t3116.2.2.2.2).length) n3127 x3656, r5 A3125 ((t3116.2.2.2.2).length) n3127 x3655, r16 A4150 ((t4145.2.1).length) n4152 t4145.2.1, r5 A4154 ((t4145.2.2).length) n4156 t4145.2.2, r20 A3704 x3703.length n3706 x3703, r16 (some ⟨g3711, 0, none⟩) x3650.length n3653 x3650, b22 g4158 none 0 0] w4159) := ⟨HS.out.nilrow 3 (Value.int .i64)⟩; replace HS : Aside0 (Sep (fps []) w [r5 none 0 0 [], r16 none 0 0 [], b7 g3123 g3124 t3116.1 t3116.2.1 t3116.2.2.1 t3116.2.2.2.1, b6 g3124 A3125 ((t3116.2.2.2.2).length) n3127 x3656, r5 A3125 ((t3116.2.2.2.2).length) n3127 x3655, r16 A4150 ((t4145.2.1).length) n4152 t4145.2.1, r5 A4154 ((t4145.2.2).length) n4156 t4145.2.2, r20 A3704 x3703.length n3706 x3703, r16 (some ⟨g3711, 0, none⟩) x3650.length n3653 x3650, b23 g4158 none 0 0 none 0 0] w4159) := ⟨HS.out.nilrow 33 (Value.int .u32)⟩; have hc4165 : w4159.cell? ⟨g4158, 0, none⟩ = some (.slice none 0 0) := blk_cellv (HS.out.nth 9 rfl) 0 rfl; have hz4166 : w4159.frozen? ⟨g4158, 0, none⟩ = false := blk_fz (HS.out.nth 9 rfl) 0; have hc4167 : w4159.cell? ⟨g4158, 1, none⟩ = some (.slice none 0 0) := blk_cellv (HS.out.nth 9 rfl) 1 rfl; have hz4168 : w4159.frozen? ⟨g4158, 1, none⟩ = false := blk_fz (HS.out.nth 9 rfl) 1) | ((with_reducible refine gate_store (t := 71) (p := 18) rfl ?_); refine store_event (w1 := (World.setCell (World.setCell w4159 ⟨g4158, 0, none⟩ (.slice A4150 ((t4145.2.1).length) n4152)) ⟨g4158, 1, none⟩ (.slice A4154 ((t4145.2.2).length) n4156))) rfl (t := 71) (p := 18) rfl rfl ?hr ?_; (case hr => first | (go_simp; done) | (go_simp; rfl)); intro w4169 hst; clear hc4165 hz4166 hc4167 hz4168; have hq0 : Sep (fps []) w [r5 none 0 0 [], r16 none 0 0 [], b7 g3123 g3124 t3116.1 t3116.2.1 t3116.2.2.1 t3116.2.2.2.1, b6 g3124 A3125 ((t3116.2.2.2.2).length) n3127 x3656, r5 A3125 ((t3116.2.2.2.2).length) n3127 x3655, r16 A4150 ((t4145.2.1).length) n4152 t4145.2.1, r5 A4154 ((t4145.2.2).length) n4156 t4145.2.2, r20 A3704 x3703.length n3706 x3703, r16 (some ⟨g3711, 0, none⟩) x3650.length n3653 x3650, b23 g4158 A4150 ((t4145.2.1).length) n4152 none 0 0] (World.setCell w4159 ⟨g4158, 0, none⟩ (.slice A4150 ((t4145.2.1).length) n4152)) := (HS.out).set1 (l1 := [r5 none 0 0 [], r16 none 0 0 [], b7 g3123 g3124 t3116.1 t3116.2.1 t3116.2.2.1 t3116.2.2.2.1, b6 g3124 A3125 ((t3116.2.2.2.2).length) n3127 x3656, r5 A3125 ((t3116.2.2.2.2).length) n3127 x3655, r16 A4150 ((t4145.2.1).length) n4152 t4145.2.1, r5 A4154 ((t4145.2.2).length) n4156 t4145.2.2, r20 A3704 x3703.length n3706 x3703, r16 (some ⟨g3711, 0, none⟩) x3650.length n3653 x3650]) (l2 := []) 0 (.slice A4150 ((t4145.2.1).length) n4152); have hq1 : Sep (fps []) w [r5 none 0 0 [], r16 none 0 0 [], b7 g3123 g3124 t3116.1 t3116.2.1 t3116.2.2.1 t3116.2.2.2.1, b6 g3124 A3125 ((t3116.2.2.2.2).length) n3127 x3656, r5 A3125 ((t3116.2.2.2.2).length) n3127 x3655, r16 A4150 ((t4145.2.1).length) n4152 t4145.2.1, r5 A4154 ((t4145.2.2).length) n4156 t4145.2.2, r20 A3704 x3703.length n3706 x3703, r16 (some ⟨g3711, 0, none⟩) x3650.length n3653 x3650, b23 g4158 A4150 ((t4145.2.1).length) n4152 A4154 ((t4145.2.2).length) n4156] (World.setCell (World.setCell w4159 ⟨g4158, 0, none⟩ (.slice A4150 ((t4145.2.1).length) n4152)) ⟨g4158, 1, none⟩ (.slice A4154 ((t4145.2.2).length) n4156)) := (hq0).set1 (l1 := [r5 none 0 0 [], r16 none 0 0 [], b7 g3123 g3124 t3116.1 t3116.2.1 t3116.2.2.1 t3116.2.2.2.1, b6 g3124 A3125 ((t3116.2.2.2.2).length) n3127 x3656, r5 A3125 ((t3116.2.2.2.2).length) n3127 x3655, r16 A4150 ((t4145.2.1).length) n4152 t4145.2.1, r5 A4154 ((t4145.2.2).length) n4156 t4145.2.2, r20 A3704 x3703.length n3706 x3703, r16 (some ⟨g3711, 0, none⟩) x3650.length n3653 x3650]) (l2 := []) 1 (.slice A4154 ((t4145.2.2).length) n4156); replace HS : Aside0 (Sep (fps []) w [r5 none 0 0 [], r16 none 0 0 [], b7 g3123 g3124 t3116.1 t3116.2.1 t3116.2.2.1 t3116.2.2.2.1, b6 g3124 A3125 ((t3116.2.2.2.2).length) n3127 x3656, r5 A3125 ((t3116.2.2.2.2).length) n3127 x3655, r16 A4150 ((t4145.2.1).length) n4152 t4145.2.1, r5 A4154 ((t4145.2.2).length) n4156 t4145.2.2, r20 A3704 x3703.length n3706 x3703, r16 (some ⟨g3711, 0, none⟩) x3650.length n3653 x3650, b23 g4158 A4150 ((t4145.2.1).length) n4152 A4154 ((t4145.2.2).length) n4156] w4169) := ⟨by rw [hst]; exact hq1⟩; clear hq0 hq1; clear hst; replace HS : Aside0 (Sep (fps []) w [b7 g3123 g3124 t3116.1 t3116.2.1 t3116.2.2.1 t3116.2.2.2.1, b6 g3124 A3125 ((t3116.2.2.2.2).length) n3127 x3656, r5 A3125 ((t3116.2.2.2.2).length) n3127 x3655, r16 A4150 ((t4145.2.1).length) n4152 t4145.2.1, r5 A4154 ((t4145.2.2).length) n4156 t4145.2.2, r20 A3704 x3703.length n3706 x3703, r16 (some ⟨g3711, 0, none⟩) x3650.length n3653 x3650, b23 g4158 A4150 ((t4145.2.1).length) n4152 A4154 ((t4145.2.2).length) n4156] w4169) := ⟨HS.out.sub (.cons _ (.cons _ (.cons_cons _ (.cons_cons _ (.cons_cons _ (.cons_cons _ (.cons_cons _ (.cons_cons _ (.cons_cons _ (.cons_cons _ .slnil))))))))))⟩; have hc4170 : w4169.cell? ⟨g4158, 0, none⟩ = some (.slice A4150 ((t4145.2.1).length) n4152) := blk_cellv (HS.out.at7) 0 rfl; have hc4171 : w4169.cell? ⟨g4158, 1, none⟩ = some (.slice A4154 ((t4145.2.2).length) n4156) := blk_cellv (HS.out.at7) 1 rfl) | ((with_reducible refine gate_dst (N := 117) rfl ?_); refine slice_on (n := 1) ?hg (N := 117) ?hd (cs := #[.slice A4150 ((t4145.2.1).length) n4152, .slice A4154 ((t4145.2.2).length) n4156]) (t := 71) ?hr ?_; (case hd => rfl); (case hg => rfl); (case hr => first | (go_simp; done) | (go_simp; rfl)); intro g4172 hg w4173 hbox hb; clear hc4170 hc4171; replace HS : Aside0 (Sep (fps []) w [b7 g3123 g3124 t3116.1 t3116.2.1 t3116.2.2.1 t3116.2.2.2.1, b6 g3124 A3125 ((t3116.2.2.2.2).length) n3127 x3656, r5 A3125 ((t3116.2.2.2.2).length) n3127 x3655, r16 A4150 ((t4145.2.1).length) n4152 t4145.2.1, r5 A4154 ((t4145.2.2).length) n4156 t4145.2.2, r20 A3704 x3703.length n3706 x3703, r16 (some ⟨g3711, 0, none⟩) x3650.length n3653 x3650, b23 g4158 A4150 ((t4145.2.1).length) n4152 A4154 ((t4145.2.2).length) n4156, b23 g4172 A4150 ((t4145.2.1).length) n4152 A4154 ((t4145.2.2).length) n4156] w4173) := ⟨HS.out.box hg hbox hb⟩; clear hg hbox hb) | ((with_reducible refine gate_dst (N := 118) rfl ?_); replace HS : Aside0 (Sep (fps []) w [r20 A3704 x3703.length n3706 x3703, r16 A4150 ((t4145.2.1).length) n4152 t4145.2.1, r5 A4154 ((t4145.2.2).length) n4156 t4145.2.2, b7 g3123 g3124 t3116.1 t3116.2.1 t3116.2.2.1 t3116.2.2.2.1, b6 g3124 A3125 ((t3116.2.2.2.2).length) n3127 x3656, r5 A3125 ((t3116.2.2.2.2).length) n3127 x3655, r16 (some ⟨g3711, 0, none⟩) x3650.length n3653 x3650, b23 g4158 A4150 ((t4145.2.1).length) n4152 A4154 ((t4145.2.2).length) n4156, b23 g4172 A4150 ((t4145.2.1).length) n4152 A4154 ((t4145.2.2).length) n4156] w4173) := ⟨(((HS.out).front 4 (by simp)).front 4 (by simp)).front 5 (by simp)⟩; refine oappend_event (l := [b7 g3123 g3124 t3116.1 t3116.2.1 t3116.2.2.1 t3116.2.2.2.1, b6 g3124 A3125 ((t3116.2.2.2.2).length) n3127 x3656, r5 A3125 ((t3116.2.2.2.2).length) n3127 x3655, r16 (some ⟨g3711, 0, none⟩) x3650.length n3653 x3650, b23 g4158 A4150 ((t4145.2.1).length) n4152 A4154 ((t4145.2.2).length) n4156, b23 g4172 A4150 ((t4145.2.1).length) n4152 A4154 ((t4145.2.2).length) n4156]) rfl (.tmp 115) (.tmp 117) 92 71 3 33 .i64 .u32 (.agg #[.slice none 0 0, .slice none 0 0]) 48 rfl Tryd.underlying92 (by kernel_rfl) (by first | rfl | decide | kernel_rfl) (by decide) A3704 x3703.length n3706 (x3703 : List (List Int × List Int)) A4150 A4154 ((t4145.2.1).length) ((t4145.2.2).length) n4152 n4156 t4145.2.1 t4145.2.2 ⟨g4172, 0, none⟩ 1 rfl rfl (blk_cellv (HS.out.at8) 0 rfl) (blk_cellv (HS.out.at8) 1 rfl) HS.out (by have := of_decide_eq_true c4175b0; omega) HA4180 ?_; intro A4176 n4177 w4178 HS1; replace HS : Aside0 (Sep (fps []) w [r20 A4176 y4179.length (n4177, n3706.2 ++ [((A4150, n4152), (A4154, n4156))]) y4179, b7 g3123 g3124 t3116.1 t3116.2.1 t3116.2.2.1 t3116.2.2.2.1, b6 g3124 A3125 ((t3116.2.2.2.2).length) n3127 x3656, r5 A3125 ((t3116.2.2.2.2).length) n3127 x3655, r16 (some ⟨g3711, 0, none⟩) x3650.length n3653 x3650, b23 g4158 A4150 ((t4145.2.1).length) n4152 A4154 ((t4145.2.2).length) n4156, b23 g4172 A4150 ((t4145.2.1).length) n4152 A4154 ((t4145.2.2).length) n4156] w4178) := ⟨HS1⟩; clear HS1; replace HS : Aside0 (Sep (fps []) w [r20 A4176 y4179.length (n4177, n3706.2 ++ [((A4150, n4152), (A4154, n4156))]) y4179, b7 g3123 g3124 t3116.1 t3116.2.1 t3116.2.2.1 t3116.2.2.2.1, b6 g3124 A3125 ((t3116.2.2.2.2).length) n3127 x3656, r5 A3125 ((t3116.2.2.2.2).length) n3127 x3655, r16 (some ⟨g3711, 0, none⟩) x3650.length n3653 x3650] w4178) := ⟨HS.out.sub (.cons_cons _ (.cons_cons _ (.cons_cons _ (.cons_cons _ (.cons_cons _ (.cons _ (.cons _ .slnil)))))))⟩))
                                go_roundg k3699
                                case measure => exact Nat.lt_succ_self _
                                case rel => exact ⟨(wrap64 (x3702 + 1)), (y4179), (A4176), (y4179.length), ((n4177, n3706.2 ++ [((A4150, n4152), (A4154, n4156))])), (by first | rfl | (simp [IntKind.wrap_u32]; done)), (by first | rfl | (simp [IntKind.wrap_u32]; done)), Aside0.mk AL3697.out, ⟨((((((HS.out).front 3 (by simp)).front 3 (by simp)).front 3 (by simp)).front 4 (by simp)).front 4 (by simp)).keep (l := [r20 A4176 y4179.length (n4177, n3706.2 ++ [((A4150, n4152), (A4154, n4156))]) y4179, r16 (some ⟨g3711, 0, none⟩) x3650.length n3653 x3650, b7 g3123 g3124 t3116.1 t3116.2.1 t3116.2.2.1 t3116.2.2.2.1, b6 g3124 A3125 ((t3116.2.2.2.2).length) n3127 x3656, r5 A3125 ((t3116.2.2.2.2).length) n3127 x3655]) (rest := [])⟩⟩
                              · replace AL3697 := if_no c4175 AL3697
                                have c4175b0 : decide (x3703.length < 2932031007402) = false := decide_eq_false c4175
                                clear c4175
                                exact (none_no AL3697).elim
                            · replace AL3697 := if_no c3709 AL3697
                              have c3709b0 : decide (0 ≤ x3702) = false := decide_eq_false c3709
                              clear c3709
                              exact (none_no AL3697).elim
                          · replace AL3697 := if_no c3708 AL3697
                            have c3708b0 : decide (x3702 < (x3650.length : Int)) = false := decide_eq_false c3708
                            clear c3708
                            have ho := some_eq AL3697
                            subst ho
                            clear AL3697
                            obtain ⟨m4182, HA4183, H⟩ := bind_some H
                            obtain ⟨hm4184, hn4185⟩ := mkLen_eq HA4183
                            have hm4184H := Aside0.mk hm4184
                            clear hm4184
                            go_wp2_with (first | ((with_reducible refine gate_dst (N := 122) rfl ?_); refine make_event rfl (N := 122) rfl 49 3 (.tmp 121) (.tmp 121) rfl .i64 (.int .i64 0) 8 Tryd.underlying49 (by kernel_rfl) rfl (by decide) (Value.int .i64) 0 rfl m4182 (by show Value.int _ _ = _; rw [hm4184H.out]) (by show Value.int _ _ = _; rw [hm4184H.out]) (by omega) HS.out ?_; intro g4186 w4187 HS1; replace HS : Aside0 (Sep (fps []) w [r20 A3704 x3703.length n3706 x3703, r16 A3651 x3650.length n3653 x3650, b7 g3123 g3124 t3116.1 t3116.2.1 t3116.2.2.1 t3116.2.2.2.1, b6 g3124 A3125 ((t3116.2.2.2.2).length) n3127 x3656, r5 A3125 ((t3116.2.2.2.2).length) n3127 x3655, r16 (some ⟨g4186, 0, none⟩) m4182 m4182 (List.replicate m4182 (0 : Int))] w4187) := ⟨HS1⟩; clear HS1))
                            obtain ⟨o4454, AL4455, H⟩ := bind_some H
                            go_loopg [125] k (fun kq v125 wc => ∃ (x4458 : Int) (x4459 : List Int) (x4460 : List Int) (x4461 : Int), v125 = .int .i64 x4458 ∧ Aside0 (quitrenttop_WholeRows.lo2 kq l5 t3116 (x3648, x3650, x3655, x3656) m4182 x4458 x4459 x4460 x4461 = some o4454) ∧ Aside0 (Sep (fps []) w [r20 A3704 x3703.length n3706 x3703, r16 A3651 x3650.length n3653 x3650, b7 g3123 g3124 t3116.1 t3116.2.1 t3116.2.2.1 t3116.2.2.2.1, b6 g3124 A3125 ((t3116.2.2.2.2).length) n3127 x4461, r5 A3125 ((t3116.2.2.2.2).length) n3127 x4459, r16 (some ⟨g4186, 0, none⟩) m4182 m4182 x4460] wc))
                            case atStart => exact ⟨(0), (x3655), ((List.replicate m4182 (0 : Int))), (x3656), (by first | rfl | (simp [IntKind.wrap_u32]; done)), AL4455, ⟨HS.out⟩⟩
                            case round =>
                              clear AL4455 HS
                              obtain ⟨x4458, x4459, x4460, x4461, rfl, AL4455, HS⟩ := hrel
                              obtain ⟨w4456, rfl⟩ : ∃ x : World, x = wr := ⟨_, rfl⟩
                              cases gk with
                              | zero => exact absurd AL4455.out (by simp [quitrenttop_WholeRows.lo2])
                              | succ k4457 =>
                                have AL0 := AL4455.out
                                rw [quitrenttop_WholeRows.lo2] at AL0
                                clear AL4455
                                have AL4455 := Aside0.mk AL0
                                clear AL0
                                by_cases c4462 : x4458 < (l5.length : Int)
                                · replace AL4455 := if_yes c4462 AL4455
                                  have c4462b0 : decide (x4458 < (l5.length : Int)) = true := decide_eq_true c4462
                                  clear c4462
                                  by_cases c4463 : 0 ≤ x4458
                                  · replace AL4455 := if_yes c4463 AL4455
                                    have c4463b0 : decide (0 ≤ x4458) = true := decide_eq_true c4463
                                    have c4463p : (0 ≤ x4458) = True := eq_true c4463
                                    clear c4463
                                    have ip4464 : (x4458 < (l5.length : Int)) = True := eq_true (of_decide_eq_true c4462b0)
                                    by_cases c4467 : (Int.tmod (rd l5 x4458) 4) = 0
                                    · replace AL4455 := if_yes c4467 AL4455
                                      have c4467b0 : ((Int.tmod (rd l5 x4458) 4) == 0) = true := beq_iff_eq.mpr c4467
                                      have c4467b1 : ((Int.tmod (rd l5 x4458) 4) != 0) = false := bne_eq_false_iff_eq.mpr c4467
                                      clear c4467
                                      by_cases c4468 : 0 ≤ (((Int.tdiv (rd l5 x4458) 4) % 256) % (x3650.length : Int))
                                      · replace AL4455 := if_yes c4468 AL4455
                                        have c4468b0 : decide (0 ≤ (((Int.tdiv (rd l5 x4458) 4) % 256) % (x3650.length : Int))) = true := decide_eq_true c4468
                                        have c4468p : (0 ≤ (((Int.tdiv (rd l5 x4458) 4) % 256) % (x3650.length : Int))) = True := eq_true c4468
                                        clear c4468
                                        by_cases c4469 : (((Int.tdiv (rd l5 x4458) 4) % 256) % (x3650.length : Int)) < (x3650.length : Int)
                                        · replace AL4455 := if_yes c4469 AL4455
                                          have c4469b0 : decide ((((Int.tdiv (rd l5 x4458) 4) % 256) % (x3650.length : Int)) < (x3650.length : Int)) = true := decide_eq_true c4469
                                          have c4469p : ((((Int.tdiv (rd l5 x4458) 4) % 256) % (x3650.length : Int)) < (x3650.length : Int)) = True := eq_true c4469
                                          clear c4469
                                          obtain ⟨hx4465a, hx4465e, hx4465⟩ := Kd.at_int (Rd.read (fun _ _ _ _ h => h) HR8.out HS.out.fr) x4458 (of_decide_eq_true c4463b0) (of_decide_eq_true c4462b0); cases hx4465e
                                          have nz4466 : (x3650.length = 0) = False := eq_false (by have := beq_eq_false_iff_ne.1 c3691b0; omega)
                                          obtain ⟨g4470, ea⟩ := row_at (HS.out.at1) (by have := (of_decide_eq_true c4468b0); have := (of_decide_eq_true c4469b0); omega); cases ea
                                          have hx4471 := C_at_int (row_Ci (HS.out.at1)) (((Int.tdiv (rd l5 x4458) 4) % 256) % (x3650.length : Int)) (of_decide_eq_true c4468b0) (of_decide_eq_true c4469b0)
                                          have hx4472 : w4456.cell? ⟨g4470, (((Int.tdiv (rd l5 x4458) 4) % 256) % (x3650.length : Int)).toNat, none⟩ = some (.int .i64 (rd x3650 (((Int.tdiv (rd l5 x4458) 4) % 256) % (x3650.length : Int)))) := (row_get 0 (HS.out.at1) (((Int.tdiv (rd l5 x4458) 4) % 256) % (x3650.length : Int)) (of_decide_eq_true c4468b0) (of_decide_eq_true c4469b0)).1
                                          go_wp2_with fail
                                          clear hx4465 nz4466 hx4471 hx4472
                                          replace HS : Aside0 (Sep (fps []) w [r5 A3125 ((t3116.2.2.2.2).length) n3127 x4459, r20 A3704 x3703.length n3706 x3703, r16 (some ⟨g4470, 0, none⟩) x3650.length n3653 x3650, b7 g3123 g3124 t3116.1 t3116.2.1 t3116.2.2.1 t3116.2.2.2.1, b6 g3124 A3125 ((t3116.2.2.2.2).length) n3127 x4461, r16 (some ⟨g4186, 0, none⟩) m4182 m4182 x4460] w4456) := ⟨HS.out.front 4 (by simp)⟩
                                          replace HS : Aside0 (Sep (fps []) w [b6 g3124 A3125 ((t3116.2.2.2.2).length) n3127 x4461, r5 A3125 ((t3116.2.2.2.2).length) n3127 x4459, r20 A3704 x3703.length n3706 x3703, r16 (some ⟨g4470, 0, none⟩) x3650.length n3653 x3650, b7 g3123 g3124 t3116.1 t3116.2.1 t3116.2.2.1 t3116.2.2.2.1, r16 (some ⟨g4186, 0, none⟩) m4182 m4182 x4460] w4456) := ⟨HS.out.front 4 (by simp)⟩
                                          replace HS : Aside0 (Sep (fps []) w [b7 g3123 g3124 t3116.1 t3116.2.1 t3116.2.2.1 t3116.2.2.2.1, b6 g3124 A3125 ((t3116.2.2.2.2).length) n3127 x4461, r5 A3125 ((t3116.2.2.2.2).length) n3127 x4459, r20 A3704 x3703.length n3706 x3703, r16 (some ⟨g4470, 0, none⟩) x3650.length n3653 x3650, r16 (some ⟨g4186, 0, none⟩) m4182 m4182 x4460] w4456) := ⟨HS.out.front 4 (by simp)⟩
                                          obtain ⟨t4207, HA4473, AL4455⟩ := bind_some AL4455
                                          refine (ring_Add.calls _ x4459 x4461 t3116.1 t3116.2.1 t3116.2.2.1 t3116.2.2.2.1 (wrap64 ((rd x3650 (((Int.tdiv (rd l5 x4458) 4) % 256) % (x3650.length : Int))) - 1)) g3123 g3124 A3125 ((t3116.2.2.2.2).length) n3127 t4207 _ ⟨HGl0.out.pass HS.out⟩ ⟨HS.out.begin⟩ HA4473).mono ?_
                                          rintro e_ w4474 ⟨rfl, hS⟩
                                          replace HS : Aside0 (Sep (fps []) w [b7 g3123 g3124 t3116.1 t3116.2.1 t3116.2.2.1 t3116.2.2.2.1, b6 g3124 A3125 ((t3116.2.2.2.2).length) n3127 t4207.2.1, r5 A3125 ((t3116.2.2.2.2).length) n3127 t4207.2.2, r20 A3704 x3703.length n3706 x3703, r16 (some ⟨g4470, 0, none⟩) x3650.length n3653 x3650, r16 (some ⟨g4186, 0, none⟩) m4182 m4182 x4460] w4474) := ⟨HS.out.call hS⟩
                                          clear hS
                                          go_wp2_with fail
                                          go_roundg k4457
                                          case measure => exact Nat.lt_succ_self _
                                          case rel => exact ⟨(wrap64 (x4458 + 1)), (t4207.2.2), (x4460), (t4207.2.1), (by first | rfl | (simp [IntKind.wrap_u32]; done)), Aside0.mk AL4455.out, ⟨(((((((HS.out).front 5 (by simp)).front 3 (by simp)).front 3 (by simp)).front 3 (by simp)).front 5 (by simp)).front 5 (by simp)).keep (l := [r20 A3704 x3703.length n3706 x3703, r16 (some ⟨g4470, 0, none⟩) x3650.length n3653 x3650, b7 g3123 g3124 t3116.1 t3116.2.1 t3116.2.2.1 t3116.2.2.2.1, b6 g3124 A3125 ((t3116.2.2.2.2).length) n3127 t4207.2.1, r5 A3125 ((t3116.2.2.2.2).length) n3127 t4207.2.2, r16 (some ⟨g4186, 0, none⟩) m4182 m4182 x4460]) (rest := [])⟩⟩
                                        · replace AL4455 := if_no c4469 AL4455
                                          have c4469b0 : decide ((((Int.tdiv (rd l5 x4458) 4) % 256) % (x3650.length : Int)) < (x3650.length : Int)) = false := decide_eq_false c4469
                                          clear c4469
                                          exact (none_no AL4455).elim
                                      · replace AL4455 := if_no c4468 AL4455
                                        have c4468b0 : decide (0 ≤ (((Int.tdiv (rd l5 x4458) 4) % 256) % (x3650.length : Int))) = false := decide_eq_false c4468
                                        clear c4468
                                        exact (none_no AL4455).elim
                                    · replace AL4455 := if_no c4467 AL4455
                                      have c4467b0 : ((Int.tmod (rd l5 x4458) 4) == 0) = false := beq_eq_false_iff_ne.mpr c4467
                                      have c4467b1 : ((Int.tmod (rd l5 x4458) 4) != 0) = true := bne_iff_ne.mpr c4467
                                      clear c4467
                                      by_cases c4475 : (Int.tmod (rd l5 x4458) 4) = 1
                                      · replace AL4455 := if_yes c4475 AL4455
                                        have c4475b0 : ((Int.tmod (rd l5 x4458) 4) == 1) = true := beq_iff_eq.mpr c4475
                                        have c4475b1 : ((Int.tmod (rd l5 x4458) 4) != 1) = false := bne_eq_false_iff_eq.mpr c4475
                                        clear c4475
                                        by_cases c4476 : 0 ≤ (((Int.tdiv (rd l5 x4458) 4) % 256) % (x3650.length : Int))
                                        · replace AL4455 := if_yes c4476 AL4455
                                          have c4476b0 : decide (0 ≤ (((Int.tdiv (rd l5 x4458) 4) % 256) % (x3650.length : Int))) = true := decide_eq_true c4476
                                          have c4476p : (0 ≤ (((Int.tdiv (rd l5 x4458) 4) % 256) % (x3650.length : Int))) = True := eq_true c4476
                                          clear c4476
                                          by_cases c4477 : (((Int.tdiv (rd l5 x4458) 4) % 256) % (x3650.length : Int)) < (x3650.length : Int)
                                          · replace AL4455 := if_yes c4477 AL4455
                                            have c4477b0 : decide ((((Int.tdiv (rd l5 x4458) 4) % 256) % (x3650.length : Int)) < (x3650.length : Int)) = true := decide_eq_true c4477
                                            have c4477p : ((((Int.tdiv (rd l5 x4458) 4) % 256) % (x3650.length : Int)) < (x3650.length : Int)) = True := eq_true c4477
                                            clear c4477
                                            obtain ⟨hx4465a, hx4465e, hx4465⟩ := Kd.at_int (Rd.read (fun _ _ _ _ h => h) HR8.out HS.out.fr) x4458 (of_decide_eq_true c4463b0) (of_decide_eq_true c4462b0); cases hx4465e
                                            have nz4466 : (x3650.length = 0) = False := eq_false (by have := beq_eq_false_iff_ne.1 c3691b0; omega)
                                            obtain ⟨g4478, ea⟩ := row_at (HS.out.at1) (by have := (of_decide_eq_true c4476b0); have := (of_decide_eq_true c4477b0); omega); cases ea
                                            have hx4479 := C_at_int (row_Ci (HS.out.at1)) (((Int.tdiv (rd l5 x4458) 4) % 256) % (x3650.length : Int)) (of_decide_eq_true c4476b0) (of_decide_eq_true c4477b0)
                                            have hx4480 : w4456.cell? ⟨g4478, (((Int.tdiv (rd l5 x4458) 4) % 256) % (x3650.length : Int)).toNat, none⟩ = some (.int .i64 (rd x3650 (((Int.tdiv (rd l5 x4458) 4) % 256) % (x3650.length : Int)))) := (row_get 0 (HS.out.at1) (((Int.tdiv (rd l5 x4458) 4) % 256) % (x3650.length : Int)) (of_decide_eq_true c4476b0) (of_decide_eq_true c4477b0)).1
                                            go_wp2_with fail
                                            clear hx4465 nz4466 hx4479 hx4480
                                            replace HS : Aside0 (Sep (fps []) w [r5 A3125 ((t3116.2.2.2.2).length) n3127 x4459, r20 A3704 x3703.length n3706 x3703, r16 (some ⟨g4478, 0, none⟩) x3650.length n3653 x3650, b7 g3123 g3124 t3116.1 t3116.2.1 t3116.2.2.1 t3116.2.2.2.1, b6 g3124 A3125 ((t3116.2.2.2.2).length) n3127 x4461, r16 (some ⟨g4186, 0, none⟩) m4182 m4182 x4460] w4456) := ⟨HS.out.front 4 (by simp)⟩
                                            replace HS : Aside0 (Sep (fps []) w [b6 g3124 A3125 ((t3116.2.2.2.2).length) n3127 x4461, r5 A3125 ((t3116.2.2.2.2).length) n3127 x4459, r20 A3704 x3703.length n3706 x3703, r16 (some ⟨g4478, 0, none⟩) x3650.length n3653 x3650, b7 g3123 g3124 t3116.1 t3116.2.1 t3116.2.2.1 t3116.2.2.2.1, r16 (some ⟨g4186, 0, none⟩) m4182 m4182 x4460] w4456) := ⟨HS.out.front 4 (by simp)⟩
                                            replace HS : Aside0 (Sep (fps []) w [b7 g3123 g3124 t3116.1 t3116.2.1 t3116.2.2.1 t3116.2.2.2.1, b6 g3124 A3125 ((t3116.2.2.2.2).length) n3127 x4461, r5 A3125 ((t3116.2.2.2.2).length) n3127 x4459, r20 A3704 x3703.length n3706 x3703, r16 (some ⟨g4478, 0, none⟩) x3650.length n3653 x3650, r16 (some ⟨g4186, 0, none⟩) m4182 m4182 x4460] w4456) := ⟨HS.out.front 4 (by simp)⟩
                                            obtain ⟨t4364, HA4481, AL4455⟩ := bind_some AL4455
                                            refine (ring_Cut.calls _ x4459 x4461 t3116.1 t3116.2.1 t3116.2.2.1 t3116.2.2.2.1 (wrap64 ((rd x3650 (((Int.tdiv (rd l5 x4458) 4) % 256) % (x3650.length : Int))) - 1)) g3123 g3124 A3125 ((t3116.2.2.2.2).length) n3127 t4364 _ ⟨HGl0.out.pass HS.out⟩ ⟨HS.out.begin⟩ HA4481).mono ?_
                                            rintro e_ w4482 ⟨rfl, hS⟩
                                            replace HS : Aside0 (Sep (fps []) w [b7 g3123 g3124 t3116.1 t3116.2.1 t3116.2.2.1 t3116.2.2.2.1, b6 g3124 A3125 ((t3116.2.2.2.2).length) n3127 t4364.2.1, r5 A3125 ((t3116.2.2.2.2).length) n3127 t4364.2.2, r20 A3704 x3703.length n3706 x3703, r16 (some ⟨g4478, 0, none⟩) x3650.length n3653 x3650, r16 (some ⟨g4186, 0, none⟩) m4182 m4182 x4460] w4482) := ⟨HS.out.call hS⟩
                                            clear hS
                                            go_wp2_with fail
                                            go_roundg k4457
                                            case measure => exact Nat.lt_succ_self _
                                            case rel => exact ⟨(wrap64 (x4458 + 1)), (t4364.2.2), (x4460), (t4364.2.1), (by first | rfl | (simp [IntKind.wrap_u32]; done)), Aside0.mk AL4455.out, ⟨(((((((HS.out).front 5 (by simp)).front 3 (by simp)).front 3 (by simp)).front 3 (by simp)).front 5 (by simp)).front 5 (by simp)).keep (l := [r20 A3704 x3703.length n3706 x3703, r16 (some ⟨g4478, 0, none⟩) x3650.length n3653 x3650, b7 g3123 g3124 t3116.1 t3116.2.1 t3116.2.2.1 t3116.2.2.2.1, b6 g3124 A3125 ((t3116.2.2.2.2).length) n3127 t4364.2.1, r5 A3125 ((t3116.2.2.2.2).length) n3127 t4364.2.2, r16 (some ⟨g4186, 0, none⟩) m4182 m4182 x4460]) (rest := [])⟩⟩
                                          · replace AL4455 := if_no c4477 AL4455
                                            have c4477b0 : decide ((((Int.tdiv (rd l5 x4458) 4) % 256) % (x3650.length : Int)) < (x3650.length : Int)) = false := decide_eq_false c4477
                                            clear c4477
                                            exact (none_no AL4455).elim
                                        · replace AL4455 := if_no c4476 AL4455
                                          have c4476b0 : decide (0 ≤ (((Int.tdiv (rd l5 x4458) 4) % 256) % (x3650.length : Int))) = false := decide_eq_false c4476
                                          clear c4476
                                          exact (none_no AL4455).elim
                                      · replace AL4455 := if_no c4475 AL4455
                                        have c4475b0 : ((Int.tmod (rd l5 x4458) 4) == 1) = false := beq_eq_false_iff_ne.mpr c4475
                                        have c4475b1 : ((Int.tmod (rd l5 x4458) 4) != 1) = true := bne_iff_ne.mpr c4475
                                        clear c4475
                                        by_cases c4483 : (Int.tmod (rd l5 x4458) 4) = 2
                                        · replace AL4455 := if_yes c4483 AL4455
                                          have c4483b0 : ((Int.tmod (rd l5 x4458) 4) == 2) = true := beq_iff_eq.mpr c4483
                                          have c4483b1 : ((Int.tmod (rd l5 x4458) 4) != 2) = false := bne_eq_false_iff_eq.mpr c4483
                                          clear c4483
                                          by_cases c4484 : 0 ≤ (((Int.tdiv (rd l5 x4458) 4) % 256) % (x3650.length : Int))
                                          · replace AL4455 := if_yes c4484 AL4455
                                            have c4484b0 : decide (0 ≤ (((Int.tdiv (rd l5 x4458) 4) % 256) % (x3650.length : Int))) = true := decide_eq_true c4484
                                            have c4484p : (0 ≤ (((Int.tdiv (rd l5 x4458) 4) % 256) % (x3650.length : Int))) = True := eq_true c4484
                                            clear c4484
                                            by_cases c4485 : (((Int.tdiv (rd l5 x4458) 4) % 256) % (x3650.length : Int)) < (x3650.length : Int)
                                            · replace AL4455 := if_yes c4485 AL4455
                                              have c4485b0 : decide ((((Int.tdiv (rd l5 x4458) 4) % 256) % (x3650.length : Int)) < (x3650.length : Int)) = true := decide_eq_true c4485
                                              have c4485p : ((((Int.tdiv (rd l5 x4458) 4) % 256) % (x3650.length : Int)) < (x3650.length : Int)) = True := eq_true c4485
                                              clear c4485
                                              obtain ⟨hx4465a, hx4465e, hx4465⟩ := Kd.at_int (Rd.read (fun _ _ _ _ h => h) HR8.out HS.out.fr) x4458 (of_decide_eq_true c4463b0) (of_decide_eq_true c4462b0); cases hx4465e
                                              have nz4466 : (x3650.length = 0) = False := eq_false (by have := beq_eq_false_iff_ne.1 c3691b0; omega)
                                              obtain ⟨g4486, ea⟩ := row_at (HS.out.at1) (by have := (of_decide_eq_true c4484b0); have := (of_decide_eq_true c4485b0); omega); cases ea
                                              have hx4487 := C_at_int (row_Ci (HS.out.at1)) (((Int.tdiv (rd l5 x4458) 4) % 256) % (x3650.length : Int)) (of_decide_eq_true c4484b0) (of_decide_eq_true c4485b0)
                                              have hx4488 : w4456.cell? ⟨g4486, (((Int.tdiv (rd l5 x4458) 4) % 256) % (x3650.length : Int)).toNat, none⟩ = some (.int .i64 (rd x3650 (((Int.tdiv (rd l5 x4458) 4) % 256) % (x3650.length : Int)))) := (row_get 0 (HS.out.at1) (((Int.tdiv (rd l5 x4458) 4) % 256) % (x3650.length : Int)) (of_decide_eq_true c4484b0) (of_decide_eq_true c4485b0)).1
                                              go_wp2_with fail
                                              clear hx4465 nz4466 hx4487 hx4488
                                              replace HS : Aside0 (Sep (fps []) w [r5 A3125 ((t3116.2.2.2.2).length) n3127 x4459, r20 A3704 x3703.length n3706 x3703, r16 (some ⟨g4486, 0, none⟩) x3650.length n3653 x3650, b7 g3123 g3124 t3116.1 t3116.2.1 t3116.2.2.1 t3116.2.2.2.1, b6 g3124 A3125 ((t3116.2.2.2.2).length) n3127 x4461, r16 (some ⟨g4186, 0, none⟩) m4182 m4182 x4460] w4456) := ⟨HS.out.front 4 (by simp)⟩
                                              replace HS : Aside0 (Sep (fps []) w [b6 g3124 A3125 ((t3116.2.2.2.2).length) n3127 x4461, r5 A3125 ((t3116.2.2.2.2).length) n3127 x4459, r20 A3704 x3703.length n3706 x3703, r16 (some ⟨g4486, 0, none⟩) x3650.length n3653 x3650, b7 g3123 g3124 t3116.1 t3116.2.1 t3116.2.2.1 t3116.2.2.2.1, r16 (some ⟨g4186, 0, none⟩) m4182 m4182 x4460] w4456) := ⟨HS.out.front 4 (by simp)⟩
                                              replace HS : Aside0 (Sep (fps []) w [b7 g3123 g3124 t3116.1 t3116.2.1 t3116.2.2.1 t3116.2.2.2.1, b6 g3124 A3125 ((t3116.2.2.2.2).length) n3127 x4461, r5 A3125 ((t3116.2.2.2.2).length) n3127 x4459, r20 A3704 x3703.length n3706 x3703, r16 (some ⟨g4486, 0, none⟩) x3650.length n3653 x3650, r16 (some ⟨g4186, 0, none⟩) m4182 m4182 x4460] w4456) := ⟨HS.out.front 4 (by simp)⟩
                                              obtain ⟨t4443, HA4489, AL4455⟩ := bind_some AL4455
                                              refine (count_Up.calls x4459 x4461 t3116.1 t3116.2.1 t3116.2.2.1 t3116.2.2.2.1 (rd x3650 (((Int.tdiv (rd l5 x4458) 4) % 256) % (x3650.length : Int))) g3123 g3124 A3125 ((t3116.2.2.2.2).length) n3127 t4443 _ ⟨HGl0.out.pass HS.out⟩ ⟨HS.out.begin⟩ HA4489).mono ?_
                                              rintro e_ w4490 ⟨rfl, hS⟩
                                              replace HS : Aside0 (Sep (fps []) w [b7 g3123 g3124 t3116.1 t3116.2.1 t3116.2.2.1 t3116.2.2.2.1, b6 g3124 A3125 ((t3116.2.2.2.2).length) n3127 t4443.2.2.1, r5 A3125 ((t3116.2.2.2.2).length) n3127 t4443.2.2.2, r20 A3704 x3703.length n3706 x3703, r16 (some ⟨g4486, 0, none⟩) x3650.length n3653 x3650, r16 (some ⟨g4186, 0, none⟩) m4182 m4182 x4460] w4490) := ⟨HS.out.call hS⟩
                                              clear hS
                                              by_cases c4491 : (((Int.tdiv (rd l5 x4458) 4) % 256) % (x3650.length : Int)) < (m4182 : Int)
                                              · replace AL4455 := if_yes c4491 AL4455
                                                have c4491b0 : decide ((((Int.tdiv (rd l5 x4458) 4) % 256) % (x3650.length : Int)) < (m4182 : Int)) = true := decide_eq_true c4491
                                                have c4491p : ((((Int.tdiv (rd l5 x4458) 4) % 256) % (x3650.length : Int)) < (m4182 : Int)) = True := eq_true c4491
                                                clear c4491
                                                obtain ⟨y4450, HA4495, AL4455⟩ := bind_some AL4455
                                                have hx4492 := C_at_int (row_Ci (HS.out.at5)) (((Int.tdiv (rd l5 x4458) 4) % 256) % (x3650.length : Int)) (of_decide_eq_true c4484b0) (of_decide_eq_true c4491b0)
                                                have hx4493 : w4490.cell? ⟨g4186, (((Int.tdiv (rd l5 x4458) 4) % 256) % (x3650.length : Int)).toNat, none⟩ = some (.int .i64 (rd x4460 (((Int.tdiv (rd l5 x4458) 4) % 256) % (x3650.length : Int)))) := (row_get 0 (HS.out.at5) (((Int.tdiv (rd l5 x4458) 4) % 256) % (x3650.length : Int)) (of_decide_eq_true c4484b0) (of_decide_eq_true c4491b0)).1
                                                have hx4496 := (row_get 0 (HS.out.at5) (((Int.tdiv (rd l5 x4458) 4) % 256) % (x3650.length : Int)) (of_decide_eq_true c4484b0) (of_decide_eq_true c4491b0)).1
                                                have hz4497 := (row_get 0 (HS.out.at5) (((Int.tdiv (rd l5 x4458) 4) % 256) % (x3650.length : Int)) (of_decide_eq_true c4484b0) (of_decide_eq_true c4491b0)).2
                                                go_wp2_with (first | ((with_reducible refine gate_store (t := 3) (p := 170) rfl ?_); refine store_event (w1 := World.setCell w4490 ⟨g4186, (((Int.tdiv (rd l5 x4458) 4) % 256) % (x3650.length : Int)).toNat, none⟩ (.int .i64 (wrap64 ((rd x4460 (((Int.tdiv (rd l5 x4458) 4) % 256) % (x3650.length : Int))) + 1)))) rfl (t := 3) (p := 170) rfl rfl ?hr ?_; (case hr => first | (go_simp; done) | (go_simp; rfl)); intro w4494 hst; clear hx4492 hx4493 hx4496 hz4497; have hq := Sep.rowset (l1 := [b7 g3123 g3124 t3116.1 t3116.2.1 t3116.2.2.1 t3116.2.2.2.1, b6 g3124 A3125 ((t3116.2.2.2.2).length) n3127 t4443.2.2.1, r5 A3125 ((t3116.2.2.2.2).length) n3127 t4443.2.2.2, r20 A3704 x3703.length n3706 x3703, r16 (some ⟨g4486, 0, none⟩) x3650.length n3653 x3650]) (l2 := []) HS.out (((Int.tdiv (rd l5 x4458) 4) % 256) % (x3650.length : Int)) (wrap64 ((rd x4460 (((Int.tdiv (rd l5 x4458) 4) % 256) % (x3650.length : Int))) + 1)); rw [← hst, some_eq HA4495] at hq; replace HS : Aside0 (Sep (fps []) w [b7 g3123 g3124 t3116.1 t3116.2.1 t3116.2.2.1 t3116.2.2.2.1, b6 g3124 A3125 ((t3116.2.2.2.2).length) n3127 t4443.2.2.1, r5 A3125 ((t3116.2.2.2.2).length) n3127 t4443.2.2.2, r20 A3704 x3703.length n3706 x3703, r16 (some ⟨g4486, 0, none⟩) x3650.length n3653 x3650, r16 (some ⟨g4186, 0, none⟩) m4182 m4182 y4450] w4494) := ⟨hq⟩; clear hst hq))
                                                go_roundg k4457
                                                case measure => exact Nat.lt_succ_self _
                                                case rel => exact ⟨(wrap64 (x4458 + 1)), (t4443.2.2.2), (y4450), (t4443.2.2.1), (by first | rfl | (simp [IntKind.wrap_u32]; done)), Aside0.mk AL4455.out, ⟨(((((((HS.out).front 5 (by simp)).front 3 (by simp)).front 3 (by simp)).front 3 (by simp)).front 5 (by simp)).front 5 (by simp)).keep (l := [r20 A3704 x3703.length n3706 x3703, r16 (some ⟨g4486, 0, none⟩) x3650.length n3653 x3650, b7 g3123 g3124 t3116.1 t3116.2.1 t3116.2.2.1 t3116.2.2.2.1, b6 g3124 A3125 ((t3116.2.2.2.2).length) n3127 t4443.2.2.1, r5 A3125 ((t3116.2.2.2.2).length) n3127 t4443.2.2.2, r16 (some ⟨g4186, 0, none⟩) m4182 m4182 y4450]) (rest := [])⟩⟩
                                              · replace AL4455 := if_no c4491 AL4455
                                                have c4491b0 : decide ((((Int.tdiv (rd l5 x4458) 4) % 256) % (x3650.length : Int)) < (m4182 : Int)) = false := decide_eq_false c4491
                                                clear c4491
                                                exact (none_no AL4455).elim
                                            · replace AL4455 := if_no c4485 AL4455
                                              have c4485b0 : decide ((((Int.tdiv (rd l5 x4458) 4) % 256) % (x3650.length : Int)) < (x3650.length : Int)) = false := decide_eq_false c4485
                                              clear c4485
                                              exact (none_no AL4455).elim
                                          · replace AL4455 := if_no c4484 AL4455
                                            have c4484b0 : decide (0 ≤ (((Int.tdiv (rd l5 x4458) 4) % 256) % (x3650.length : Int))) = false := decide_eq_false c4484
                                            clear c4484
                                            exact (none_no AL4455).elim
                                        · replace AL4455 := if_no c4483 AL4455
                                          have c4483b0 : ((Int.tmod (rd l5 x4458) 4) == 2) = false := beq_eq_false_iff_ne.mpr c4483
                                          have c4483b1 : ((Int.tmod (rd l5 x4458) 4) != 2) = true := bne_iff_ne.mpr c4483
                                          clear c4483
                                          obtain ⟨hx4465a, hx4465e, hx4465⟩ := Kd.at_int (Rd.read (fun _ _ _ _ h => h) HR8.out HS.out.fr) x4458 (of_decide_eq_true c4463b0) (of_decide_eq_true c4462b0); cases hx4465e
                                          have nz4466 : (x3650.length = 0) = False := eq_false (by have := beq_eq_false_iff_ne.1 c3691b0; omega)
                                          go_wp2_with fail
                                          clear hx4465 nz4466
                                          replace HS : Aside0 (Sep (fps []) w [r5 A3125 ((t3116.2.2.2.2).length) n3127 x4459, r20 A3704 x3703.length n3706 x3703, r16 A3651 x3650.length n3653 x3650, b7 g3123 g3124 t3116.1 t3116.2.1 t3116.2.2.1 t3116.2.2.2.1, b6 g3124 A3125 ((t3116.2.2.2.2).length) n3127 x4461, r16 (some ⟨g4186, 0, none⟩) m4182 m4182 x4460] w4456) := ⟨HS.out.front 4 (by simp)⟩
                                          replace HS : Aside0 (Sep (fps []) w [b6 g3124 A3125 ((t3116.2.2.2.2).length) n3127 x4461, r5 A3125 ((t3116.2.2.2.2).length) n3127 x4459, r20 A3704 x3703.length n3706 x3703, r16 A3651 x3650.length n3653 x3650, b7 g3123 g3124 t3116.1 t3116.2.1 t3116.2.2.1 t3116.2.2.2.1, r16 (some ⟨g4186, 0, none⟩) m4182 m4182 x4460] w4456) := ⟨HS.out.front 4 (by simp)⟩
                                          replace HS : Aside0 (Sep (fps []) w [b7 g3123 g3124 t3116.1 t3116.2.1 t3116.2.2.1 t3116.2.2.2.1, b6 g3124 A3125 ((t3116.2.2.2.2).length) n3127 x4461, r5 A3125 ((t3116.2.2.2.2).length) n3127 x4459, r20 A3704 x3703.length n3706 x3703, r16 A3651 x3650.length n3653 x3650, r16 (some ⟨g4186, 0, none⟩) m4182 m4182 x4460] w4456) := ⟨HS.out.front 4 (by simp)⟩
                                          obtain ⟨t4533, HA4534, AL4455⟩ := bind_some AL4455
                                          refine (ring_Take.calls _ x4459 x4461 t3116.1 t3116.2.1 t3116.2.2.1 t3116.2.2.2.1 g3123 g3124 A3125 ((t3116.2.2.2.2).length) n3127 t4533 _ ⟨HGl0.out.pass HS.out⟩ ⟨HS.out.begin⟩ HA4534).mono ?_
                                          rintro e_ w4535 ⟨rfl, hS⟩
                                          replace HS : Aside0 (Sep (fps []) w [b7 g3123 g3124 t3116.1 t3116.2.1 t3116.2.2.1 t3116.2.2.2.1, b6 g3124 A3125 ((t3116.2.2.2.2).length) n3127 t4533.2.2.1, r5 A3125 ((t3116.2.2.2.2).length) n3127 t4533.2.2.2, r20 A3704 x3703.length n3706 x3703, r16 A3651 x3650.length n3653 x3650, r16 (some ⟨g4186, 0, none⟩) m4182 m4182 x4460] w4535) := ⟨HS.out.call hS⟩
                                          clear hS
                                          go_wp2_with fail
                                          go_roundg k4457
                                          case measure => exact Nat.lt_succ_self _
                                          case rel => exact ⟨(wrap64 (x4458 + 1)), (t4533.2.2.2), (x4460), (t4533.2.2.1), (by first | rfl | (simp [IntKind.wrap_u32]; done)), Aside0.mk AL4455.out, ⟨(((((((HS.out).front 5 (by simp)).front 3 (by simp)).front 3 (by simp)).front 3 (by simp)).front 5 (by simp)).front 5 (by simp)).keep (l := [r20 A3704 x3703.length n3706 x3703, r16 A3651 x3650.length n3653 x3650, b7 g3123 g3124 t3116.1 t3116.2.1 t3116.2.2.1 t3116.2.2.2.1, b6 g3124 A3125 ((t3116.2.2.2.2).length) n3127 t4533.2.2.1, r5 A3125 ((t3116.2.2.2.2).length) n3127 t4533.2.2.2, r16 (some ⟨g4186, 0, none⟩) m4182 m4182 x4460]) (rest := [])⟩⟩
                                  · replace AL4455 := if_no c4463 AL4455
                                    have c4463b0 : decide (0 ≤ x4458) = false := decide_eq_false c4463
                                    clear c4463
                                    exact (none_no AL4455).elim
                                · replace AL4455 := if_no c4462 AL4455
                                  have c4462b0 : decide (x4458 < (l5.length : Int)) = false := decide_eq_false c4462
                                  clear c4462
                                  have ho := some_eq AL4455
                                  subst ho
                                  clear AL4455
                                  go_wp2_with fail
                                  obtain ⟨o4750, AL4751, H⟩ := bind_some H
                                  go_loopg [174] k (fun kq v174 wc => ∃ (x4754 : Int) (x4755 : Int), v174 = .int .i64 x4754 ∧ Aside0 (quitrenttop_WholeRows.lo3 kq t3116 (x3648, x3650, x3655, x3656) x3703 m4182 (x4459, x4460, x4461) x4754 x4755 = some o4750) ∧ Aside0 (Sep (fps []) w [r20 A3704 x3703.length n3706 x3703, r16 A3651 x3650.length n3653 x3650, b7 g3123 g3124 t3116.1 t3116.2.1 t3116.2.2.1 t3116.2.2.2.1, b6 g3124 A3125 ((t3116.2.2.2.2).length) n3127 x4755, r5 A3125 ((t3116.2.2.2.2).length) n3127 x4459, r16 (some ⟨g4186, 0, none⟩) m4182 m4182 x4460] wc))
                                  case atStart => exact ⟨(0), (x4461), (by first | rfl | (simp [IntKind.wrap_u32]; done)), AL4751, ⟨HS.out⟩⟩
                                  case round =>
                                    clear AL4751 HS
                                    obtain ⟨x4754, x4755, rfl, AL4751, HS⟩ := hrel
                                    obtain ⟨w4752, rfl⟩ : ∃ x : World, x = wr := ⟨_, rfl⟩
                                    cases gk with
                                    | zero => exact absurd AL4751.out (by simp [quitrenttop_WholeRows.lo3])
                                    | succ k4753 =>
                                      have AL0 := AL4751.out
                                      rw [quitrenttop_WholeRows.lo3] at AL0
                                      clear AL4751
                                      have AL4751 := Aside0.mk AL0
                                      clear AL0
                                      by_cases c4756 : x4754 < (x3650.length : Int)
                                      · replace AL4751 := if_yes c4756 AL4751
                                        have c4756b0 : decide (x4754 < (x3650.length : Int)) = true := decide_eq_true c4756
                                        clear c4756
                                        by_cases c4757 : 0 ≤ x4754
                                        · replace AL4751 := if_yes c4757 AL4751
                                          have c4757b0 : decide (0 ≤ x4754) = true := decide_eq_true c4757
                                          have c4757p : (0 ≤ x4754) = True := eq_true c4757
                                          clear c4757
                                          have ip4758 : (x4754 < (x3650.length : Int)) = True := eq_true (of_decide_eq_true c4756b0)
                                          obtain ⟨g4759, ea⟩ := row_at (HS.out.at1) (by have := (of_decide_eq_true c4757b0); have := (of_decide_eq_true c4756b0); omega); cases ea
                                          have hx4760 := C_at_int (row_Ci (HS.out.at1)) x4754 (of_decide_eq_true c4757b0) (of_decide_eq_true c4756b0)
                                          have hx4761 : w4752.cell? ⟨g4759, (x4754).toNat, none⟩ = some (.int .i64 (rd x3650 x4754)) := (row_get 0 (HS.out.at1) x4754 (of_decide_eq_true c4757b0) (of_decide_eq_true c4756b0)).1
                                          go_wp2_with fail
                                          clear hx4760 hx4761
                                          replace HS : Aside0 (Sep (fps []) w [r5 A3125 ((t3116.2.2.2.2).length) n3127 x4459, r20 A3704 x3703.length n3706 x3703, r16 (some ⟨g4759, 0, none⟩) x3650.length n3653 x3650, b7 g3123 g3124 t3116.1 t3116.2.1 t3116.2.2.1 t3116.2.2.2.1, b6 g3124 A3125 ((t3116.2.2.2.2).length) n3127 x4755, r16 (some ⟨g4186, 0, none⟩) m4182 m4182 x4460] w4752) := ⟨HS.out.front 4 (by simp)⟩
                                          replace HS : Aside0 (Sep (fps []) w [b6 g3124 A3125 ((t3116.2.2.2.2).length) n3127 x4755, r5 A3125 ((t3116.2.2.2.2).length) n3127 x4459, r20 A3704 x3703.length n3706 x3703, r16 (some ⟨g4759, 0, none⟩) x3650.length n3653 x3650, b7 g3123 g3124 t3116.1 t3116.2.1 t3116.2.2.1 t3116.2.2.2.1, r16 (some ⟨g4186, 0, none⟩) m4182 m4182 x4460] w4752) := ⟨HS.out.front 4 (by simp)⟩
                                          replace HS : Aside0 (Sep (fps []) w [b7 g3123 g3124 t3116.1 t3116.2.1 t3116.2.2.1 t3116.2.2.2.1, b6 g3124 A3125 ((t3116.2.2.2.2).length) n3127 x4755, r5 A3125 ((t3116.2.2.2.2).length) n3127 x4459, r20 A3704 x3703.length n3706 x3703, r16 (some ⟨g4759, 0, none⟩) x3650.length n3653 x3650, r16 (some ⟨g4186, 0, none⟩) m4182 m4182 x4460] w4752) := ⟨HS.out.front 4 (by simp)⟩
                                          obtain ⟨t4548, HA4762, AL4751⟩ := bind_some AL4751
                                          refine (obj_See.calls _ x4459 x4755 t3116.1 t3116.2.1 t3116.2.2.1 t3116.2.2.2.1 (rd x3650 x4754) g3123 g3124 A3125 ((t3116.2.2.2.2).length) n3127 t4548 _ ⟨HGl0.out.pass HS.out⟩ ⟨HS.out.begin⟩ HA4762).mono ?_
                                          rintro e_ w4763 ⟨A4766, m4767, n4768, A4770, m4771, n4772, rfl, hS⟩
                                          replace HS : Aside0 (Sep (fps []) w [b7 g3123 g3124 t3116.1 t3116.2.1 t3116.2.2.1 t3116.2.2.2.1, b6 g3124 A3125 ((t3116.2.2.2.2).length) n3127 x4755, r5 A3125 ((t3116.2.2.2.2).length) n3127 x4459, r16 A4766 m4767 n4768 t4548.2.1, r5 A4770 m4771 n4772 t4548.2.2, r20 A3704 x3703.length n3706 x3703, r16 (some ⟨g4759, 0, none⟩) x3650.length n3653 x3650, r16 (some ⟨g4186, 0, none⟩) m4182 m4182 x4460] w4763) := ⟨HS.out.call hS⟩
                                          clear hS
                                          obtain rfl := (row_len (HS.out.at3)).symm
                                          obtain rfl := (row_len (HS.out.at4)).symm
                                          go_wp2_with (first | ((with_reducible refine gate_dst (N := 26) rfl ?_); refine box_on ?hg (N := 26) ?hd (cs := #[.slice none 0 0, .slice none 0 0]) (t := 71) ?hr ?_; (case hd => rfl); (case hg => rfl); (case hr => first | (go_simp; done) | (go_simp; rfl)); intro g4774 hg w4775 hbox hb; replace HS : Aside0 (Sep (fps []) w [b7 g3123 g3124 t3116.1 t3116.2.1 t3116.2.2.1 t3116.2.2.2.1, b6 g3124 A3125 ((t3116.2.2.2.2).length) n3127 x4755, r5 A3125 ((t3116.2.2.2.2).length) n3127 x4459, r16 A4766 ((t4548.2.1).length) n4768 t4548.2.1, r5 A4770 ((t4548.2.2).length) n4772 t4548.2.2, r20 A3704 x3703.length n3706 x3703, r16 (some ⟨g4759, 0, none⟩) x3650.length n3653 x3650, r16 (some ⟨g4186, 0, none⟩) m4182 m4182 x4460, b21 g4774] w4775) := ⟨HS.out.box hg hbox hb⟩; clear hg hbox hb; replace HS : Aside0 (Sep (fps []) w [r16 none 0 0 [], b7 g3123 g3124 t3116.1 t3116.2.1 t3116.2.2.1 t3116.2.2.2.1, b6 g3124 A3125 ((t3116.2.2.2.2).length) n3127 x4755, r5 A3125 ((t3116.2.2.2.2).length) n3127 x4459, r16 A4766 ((t4548.2.1).length) n4768 t4548.2.1, r5 A4770 ((t4548.2.2).length) n4772 t4548.2.2, r20 A3704 x3703.length n3706 x3703, r16 (some ⟨g4759, 0, none⟩) x3650.length n3653 x3650, r16 (some ⟨g4186, 0, none⟩) m4182 m4182 x4460, b22 g4774 none 0 0] w4775) := ⟨HS.out.nilrow 3 (Value.int .i64)⟩; replace HS : Aside0 (Sep (fps []) w [r5 none 0 0 [], r16 none 0 0 [], b7 g3123 g3124 t3116.1 t3116.2.1 t3116.2.2.1 t3116.2.2.2.1, b6 g3124 A3125 ((t3116.2.2.2.2).length) n3127 x4755, r5 A3125 ((t3116.2.2.2.2).length) n3127 x4459, r16 A4766 ((t4548.2.1).length) n4768 t4548.2.1, r5 A4770 ((t4548.2.2).length) n4772 t4548.2.2, r20 A3704 x3703.length n3706 x3703, r16 (some ⟨g4759, 0, none⟩) x3650.length n3653 x3650, r16 (some ⟨g4186, 0, none⟩) m4182 m4182 x4460, b23 g4774 none 0 0 none 0 0] w4775) := ⟨HS.out.nilrow 33 (Value.int .u32)⟩; have hc4781 : w4775.cell? ⟨g4774, 0, none⟩ = some (.slice none 0 0) := blk_cellv (HS.out.nth 10 rfl) 0 rfl; have hz4782 : w4775.frozen? ⟨g4774, 0, none⟩ = false := blk_fz (HS.out.nth 10 rfl) 0; have hc4783 : w4775.cell? ⟨g4774, 1, none⟩ = some (.slice none 0 0) := blk_cellv (HS.out.nth 10 rfl) 1 rfl; have hz4784 : w4775.frozen? ⟨g4774, 1, none⟩ = false := blk_fz (HS.out.nth 10 rfl) 1) | ((with_reducible refine gate_store (t := 71) (p := 26) rfl ?_); refine store_event (w1 := (World.setCell (World.setCell w4775 ⟨g4774, 0, none⟩ (.slice A4766 ((t4548.2.1).length) n4768)) ⟨g4774, 1, none⟩ (.slice A4770 ((t4548.2.2).length) n4772))) rfl (t := 71) (p := 26) rfl rfl ?hr ?_; (case hr => first | (go_simp; done) | (go_simp; rfl)); intro w4785 hst; clear hc4781 hz4782 hc4783 hz4784; have hq0 : Sep (fps []) w [r5 none 0 0 [], r16 none 0 0 [], b7 g3123 g3124 t3116.1 t3116.2.1 t3116.2.2.1 t3116.2.2.2.1, b6 g3124 A3125 ((t3116.2.2.2.2).length) n3127 x4755, r5 A3125 ((t3116.2.2.2.2).length) n3127 x4459, r16 A4766 ((t4548.2.1).length) n4768 t4548.2.1, r5 A4770 ((t4548.2.2).length) n4772 t4548.2.2, r20 A3704 x3703.length n3706 x3703, r16 (some ⟨g4759, 0, none⟩) x3650.length n3653 x3650, r16 (some ⟨g4186, 0, none⟩) m4182 m4182 x4460, b23 g4774 A4766 ((t4548.2.1).length) n4768 none 0 0] (World.setCell w4775 ⟨g4774, 0, none⟩ (.slice A4766 ((t4548.2.1).length) n4768)) := (HS.out).set1 (l1 := [r5 none 0 0 [], r16 none 0 0 [], b7 g3123 g3124 t3116.1 t3116.2.1 t3116.2.2.1 t3116.2.2.2.1, b6 g3124 A3125 ((t3116.2.2.2.2).length) n3127 x4755, r5 A3125 ((t3116.2.2.2.2).length) n3127 x4459, r16 A4766 ((t4548.2.1).length) n4768 t4548.2.1, r5 A4770 ((t4548.2.2).length) n4772 t4548.2.2, r20 A3704 x3703.length n3706 x3703, r16 (some ⟨g4759, 0, none⟩) x3650.length n3653 x3650, r16 (some ⟨g4186, 0, none⟩) m4182 m4182 x4460]) (l2 := []) 0 (.slice A4766 ((t4548.2.1).length) n4768); have hq1 : Sep (fps []) w [r5 none 0 0 [], r16 none 0 0 [], b7 g3123 g3124 t3116.1 t3116.2.1 t3116.2.2.1 t3116.2.2.2.1, b6 g3124 A3125 ((t3116.2.2.2.2).length) n3127 x4755, r5 A3125 ((t3116.2.2.2.2).length) n3127 x4459, r16 A4766 ((t4548.2.1).length) n4768 t4548.2.1, r5 A4770 ((t4548.2.2).length) n4772 t4548.2.2, r20 A3704 x3703.length n3706 x3703, r16 (some ⟨g4759, 0, none⟩) x3650.length n3653 x3650, r16 (some ⟨g4186, 0, none⟩) m4182 m4182 x4460, b23 g4774 A4766 ((t4548.2.1).length) n4768 A4770 ((t4548.2.2).length) n4772] (World.setCell (World.setCell w4775 ⟨g4774, 0, none⟩ (.slice A4766 ((t4548.2.1).length) n4768)) ⟨g4774, 1, none⟩ (.slice A4770 ((t4548.2.2).length) n4772)) := (hq0).set1 (l1 := [r5 none 0 0 [], r16 none 0 0 [], b7 g3123 g3124 t3116.1 t3116.2.1 t3116.2.2.1 t3116.2.2.2.1, b6 g3124 A3125 ((t3116.2.2.2.2).length) n3127 x4755, r5 A3125 ((t3116.2.2.2.2).length) n3127 x4459, r16 A4766 ((t4548.2.1).length) n4768 t4548.2.1, r5 A4770 ((t4548.2.2).length) n4772 t4548.2.2, r20 A3704 x3703.length n3706 x3703, r16 (some ⟨g4759, 0, none⟩) x3650.length n3653 x3650, r16 (some ⟨g4186, 0, none⟩) m4182 m4182 x4460]) (l2 := []) 1 (.slice A4770 ((t4548.2.2).length) n4772); replace HS : Aside0 (Sep (fps []) w [r5 none 0 0 [], r16 none 0 0 [], b7 g3123 g3124 t3116.1 t3116.2.1 t3116.2.2.1 t3116.2.2.2.1, b6 g3124 A3125 ((t3116.2.2.2.2).length) n3127 x4755, r5 A3125 ((t3116.2.2.2.2).length) n3127 x4459, r16 A4766 ((t4548.2.1).length) n4768 t4548.2.1, r5 A4770 ((t4548.2.2).length) n4772 t4548.2.2, r20 A3704 x3703.length n3706 x3703, r16 (some ⟨g4759, 0, none⟩) x3650.length n3653 x3650, r16 (some ⟨g4186, 0, none⟩) m4182 m4182 x4460, b23 g4774 A4766 ((t4548.2.1).length) n4768 A4770 ((t4548.2.2).length) n4772] w4785) := ⟨by rw [hst]; exact hq1⟩; clear hq0 hq1; clear hst; replace HS : Aside0 (Sep (fps []) w [b7 g3123 g3124 t3116.1 t3116.2.1 t3116.2.2.1 t3116.2.2.2.1, b6 g3124 A3125 ((t3116.2.2.2.2).length) n3127 x4755, r5 A3125 ((t3116.2.2.2.2).length) n3127 x4459, r16 A4766 ((t4548.2.1).length) n4768 t4548.2.1, r5 A4770 ((t4548.2.2).length) n4772 t4548.2.2, r20 A3704 x3703.length n3706 x3703, r16 (some ⟨g4759, 0, none⟩) x3650.length n3653 x3650, r16 (some ⟨g4186, 0, none⟩) m4182 m4182 x4460, b23 g4774 A4766 ((t4548.2.1).length) n4768 A4770 ((t4548.2.2).length) n4772] w4785) := ⟨HS.out.sub (.cons _ (.cons _ (.cons_cons _ (.cons_cons _ (.cons_cons _ (.cons_cons _ (.cons_cons _ (.cons_cons _ (.cons_cons _ (.cons_cons _ (.cons_cons _ .slnil)))))))))))⟩))
                                          refine start_ (n := 34) (S := (fun w' => Kd.C (Kd.int .i64) w' (some ⟨g4186, 0, none⟩) m4182 x4460 ∧ w'.cell? ⟨g4774, 0, none⟩ = some (.slice A4766 ((t4548.2.1).length) n4768) ∧ ocells w' A3704 x3703.length n3706 x3703 ∧ w'.cell? ⟨g4774, 1, none⟩ = some (.slice A4770 ((t4548.2.2).length) n4772))) (ds := []) #[false, false, false, false, false, false, false, false, false, false, false, false, false, false, false, false, false, false, false, false, false, false, false, false, false, false, false, false, false, false, false, false, false, false] (by kernel_rfl) rfl rfl (⟨row_Ci ((HS.out.drew).at7), blk_cellv ((HS.out.drew).at8) 0 rfl, ocells_of ((HS.out.drew).at5), blk_cellv ((HS.out.drew).at8) 1 rfl⟩) (fun hHeld => ?_)
                                          have HS_ := Aside0.mk HS.out.drew
                                          clear HS
                                          generalize World.drew _ = w4787 at HS_ hHeld ⊢
                                          have HS := HS_
                                          clear HS_
                                          refine pure_ (i := 0) (N := some 185) (v := ?_) (a' := ?_) #[true, false, false, false, false, false, false, false, false, false, false, false, false, false, false, false, false, false, false, false, false, false, false, false, false, false, false, false, false, false, false, false, false, false] rfl rfl (by kernel_rfl) (fun _ _ _ h => h) (Or.inl ⟨by rfl, ?_⟩) ?_ ?_
                                          rotate_left
                                          · intro w'
                                            go_simp
                                            with_reducible rfl
                                          rotate_left
                                          · simp only [Act.put, List.setIfInBounds_toArray, List.set_cons_zero, List.set_cons_succ, i64_w, i32_w]
                                            rfl
                                          refine pure_ (i := 1) (N := some 186) (v := ?_) (a' := ?_) #[true, true, false, false, false, false, false, false, false, false, false, false, false, false, false, false, false, false, false, false, false, false, false, false, false, false, false, false, false, false, false, false, false, false] rfl rfl (by kernel_rfl) (fun _ _ _ h => h) (Or.inl ⟨by rfl, ?_⟩) ?_ ?_
                                          rotate_left
                                          · intro w'
                                            go_simp
                                            with_reducible rfl
                                          rotate_left
                                          · simp only [Act.put, List.setIfInBounds_toArray, List.set_cons_zero, List.set_cons_succ, i64_w, i32_w]
                                            rfl
                                          refine pure_ (i := 2) (N := some 187) (v := ?_) (a' := ?_) #[true, true, true, false, false, false, false, false, false, false, false, false, false, false, false, false, false, false, false, false, false, false, false, false, false, false, false, false, false, false, false, false, false, false] rfl rfl (by kernel_rfl) (fun _ _ _ h => h) (Or.inl ⟨by rfl, ?_⟩) ?_ ?_
                                          rotate_left
                                          · intro w'
                                            go_simp
                                            with_reducible rfl
                                          rotate_left
                                          · simp only [Act.put, List.setIfInBounds_toArray, List.set_cons_zero, List.set_cons_succ, i64_w, i32_w]
                                            rfl
                                          by_cases c4788 : t4548.1 = true
                                          · replace AL4751 := if_yes c4788 AL4751
                                            have c4788b0 : t4548.1 = true := c4788
                                            have c4788b1 : (!t4548.1) = false := by rw [c4788b0]; rfl
                                            try rw [c4788b1]
                                            clear c4788
                                            try simp only [c4788b0, Bool.not_true, Bool.not_false]
                                            refine pure_ (i := 3) (N := some 188) (v := ?_) (a' := ?_) #[true, true, true, true, false, false, false, false, false, false, false, false, false, false, false, false, false, false, false, false, false, false, false, false, false, false, false, false, false, false, false, false, false, false] rfl rfl (by kernel_rfl) (fun _ _ _ h => h) (Or.inl ⟨by rfl, ?_⟩) ?_ ?_
                                            rotate_left
                                            · intro w'
                                              go_simp
                                              with_reducible rfl
                                            rotate_left
                                            · simp only [Act.put, List.setIfInBounds_toArray, List.set_cons_zero, List.set_cons_succ, i64_w, i32_w]
                                              rfl
                                            try simp only [c4788b0, Bool.not_true, Bool.not_false]
                                            refine pure_ (i := 4) (N := some 189) (v := ?_) (a' := ?_) #[true, true, true, true, true, false, false, false, false, false, false, false, false, false, false, false, false, false, false, false, false, false, false, false, false, false, false, false, false, false, false, false, false, false] rfl rfl (by kernel_rfl) (fun _ _ _ h => h) (Or.inl ⟨by rfl, ?_⟩) ?_ ?_
                                            rotate_left
                                            · intro w'
                                              go_simp
                                              with_reducible rfl
                                            rotate_left
                                            · simp only [Act.put, List.setIfInBounds_toArray, List.set_cons_zero, List.set_cons_succ, i64_w, i32_w]
                                              rfl
                                            try simp only [c4788b0, Bool.not_true, Bool.not_false]
                                            refine pure_ (i := 6) (N := some 191) (v := ?_) (a' := ?_) #[true, true, true, true, true, false, true, false, false, false, false, false, false, false, false, false, false, false, false, false, false, false, false, false, false, false, false, false, false, false, false, false, false, false] rfl rfl (by kernel_rfl) (fun _ _ _ h => h) (Or.inl ⟨by rfl, ?_⟩) ?_ ?_
                                            rotate_left
                                            · intro w'
                                              go_simp
                                              with_reducible rfl
                                            rotate_left
                                            · simp only [Act.put, List.setIfInBounds_toArray, List.set_cons_zero, List.set_cons_succ, i64_w, i32_w]
                                              rfl
                                            try simp only [c4788b0, Bool.not_true, Bool.not_false]
                                            refine pure_ (i := 7) (N := some 192) (v := ?_) (a' := ?_) #[true, true, true, true, true, false, true, true, false, false, false, false, false, false, false, false, false, false, false, false, false, false, false, false, false, false, false, false, false, false, false, false, false, false] rfl rfl (by kernel_rfl) (fun _ _ _ h => h) (Or.inl ⟨by rfl, ?_⟩) ?_ ?_
                                            rotate_left
                                            · intro w'
                                              go_simp
                                              with_reducible rfl
                                            rotate_left
                                            · simp only [Act.put, List.setIfInBounds_toArray, List.set_cons_zero, List.set_cons_succ, i64_w, i32_w]
                                              rfl
                                            by_cases c4789 : x4754 < (m4182 : Int)
                                            · replace AL4751 := if_yes c4789 AL4751
                                              have c4789b0 : decide (x4754 < (m4182 : Int)) = true := decide_eq_true c4789
                                              have c4789p : (x4754 < (m4182 : Int)) = True := eq_true c4789
                                              clear c4789
                                              try simp only [c4788b0, Bool.not_true, Bool.not_false]
                                              refine pure_ (i := 8) (N := some 193) (v := ?_) (a' := ?_) #[true, true, true, true, true, false, true, true, true, false, false, false, false, false, false, false, false, false, false, false, false, false, false, false, false, false, false, false, false, false, false, false, false, false] rfl rfl (by kernel_rfl) (fun _ _ _ h => h) (Or.inl ⟨by rfl, ?_⟩) ?_ ?_
                                              rotate_left
                                              · intro w'
                                                go_simp
                                                with_reducible rfl
                                              rotate_left
                                              · simp only [Act.put, List.setIfInBounds_toArray, List.set_cons_zero, List.set_cons_succ, i64_w, i32_w]
                                                rfl
                                              try simp only [c4788b0, Bool.not_true, Bool.not_false]
                                              refine take_ (i := 9) (N := some 194) (v := ?_) (a' := ?_) #[true, true, true, true, true, false, true, true, true, true, false, false, false, false, false, false, false, false, false, false, false, false, false, false, false, false, false, false, false, false, false, false, false, false] rfl rfl (by kernel_rfl) (fun _ _ _ h => h) (Or.inl ⟨by rfl, ?_⟩) hHeld ?_ ?_
                                              rotate_left
                                              · rintro w' hS'
                                                obtain ⟨s0, s1, s2, s3⟩ := hS'
                                                have hx := C_at_int s0 x4754 (of_decide_eq_true c4757b0) (of_decide_eq_true c4789b0)
                                                have hx2 : w'.cell? ⟨g4186, (x4754).toNat, none⟩ = some (.int .i64 (rd x4460 x4754)) := by have h_ := hx; rwa [add_plain] at h_
                                                go_simp
                                                with_reducible rfl
                                              rotate_left
                                              · simp only [Act.put, List.setIfInBounds_toArray, List.set_cons_zero, List.set_cons_succ, i64_w, i32_w]
                                                rfl
                                              try simp only [c4788b0, Bool.not_true, Bool.not_false]
                                              refine one_ (i := 5) (N := some 190) #[true, true, true, true, true, true, true, true, true, true, false, false, false, false, false, false, false, false, false, false, false, false, false, false, false, false, false, false, false, false, false, false, false, false] rfl rfl (by kernel_rfl) (by decide) (fun K hK => ?_)
                                              obtain ⟨t4607, HA4790, AL4751⟩ := bind_some AL4751
                                              refine goes_ Tryd.func39 (by kernel_rfl) rfl #[.pointer (some ⟨g3123, 0, none⟩), .int .i64 (rd x3650 x4754)] (by rfl) rfl rfl (by (try simp only [List.map_toArray, List.map_cons, List.map_nil]); first | done | rfl) ?_
                                              refine (count_Of.calls x4459 x4755 t3116.1 t3116.2.1 t3116.2.2.1 t3116.2.2.2.1 (rd x3650 x4754) g3123 g3124 A3125 ((t3116.2.2.2.2).length) n3127 t4607 _ ⟨HGl0.out.pass HS.out⟩ ⟨HS.out.begin⟩ HA4790).mono ?_
                                              rintro e_ w4791 ⟨rfl, hS⟩
                                              replace HS : Aside0 (Sep (fps []) w [b7 g3123 g3124 t3116.1 t3116.2.1 t3116.2.2.1 t3116.2.2.2.1, b6 g3124 A3125 ((t3116.2.2.2.2).length) n3127 t4607.2, r5 A3125 ((t3116.2.2.2.2).length) n3127 x4459, r16 A4766 ((t4548.2.1).length) n4768 t4548.2.1, r5 A4770 ((t4548.2.2).length) n4772 t4548.2.2, r20 A3704 x3703.length n3706 x3703, r16 (some ⟨g4759, 0, none⟩) x3650.length n3653 x3650, r16 (some ⟨g4186, 0, none⟩) m4182 m4182 x4460, b23 g4774 A4766 ((t4548.2.1).length) n4768 A4770 ((t4548.2.2).length) n4772] w4791) := ⟨HS.out.call hS⟩
                                              clear hS
                                              refine ⟨_, rfl, ?_⟩
                                              refine hK.out _ _ (⟨row_Ci (HS.out.at7), blk_cellv (HS.out.at8) 0 rfl, ocells_of (HS.out.at5), blk_cellv (HS.out.at8) 1 rfl⟩) (fun hHeld => ?_)
                                              clear hK K
                                              refine norm_ (a' := ?_) ?_ ?_
                                              rotate_left
                                              · show Act.put _ (some 190) _ = _
                                                simp only [Act.put, List.setIfInBounds_toArray, List.set_cons_zero, List.set_cons_succ, i64_w, i32_w]
                                                rfl
                                              try simp only [c4788b0, Bool.not_true, Bool.not_false]
                                              refine pure_ (i := 10) (N := some 195) (v := ?_) (a' := ?_) #[true, true, true, true, true, true, true, true, true, true, true, false, false, false, false, false, false, false, false, false, false, false, false, false, false, false, false, false, false, false, false, false, false, false] rfl rfl (by kernel_rfl) (fun _ _ _ h => h) (Or.inl ⟨by rfl, ?_⟩) ?_ ?_
                                              rotate_left
                                              · intro w'
                                                go_simp
                                                with_reducible rfl
                                              rotate_left
                                              · simp only [Act.put, List.setIfInBounds_toArray, List.set_cons_zero, List.set_cons_succ, i64_w, i32_w]
                                                rfl
                                              refine pure_ (i := 11) (N := some 196) (v := ?_) (a' := ?_) #[true, true, true, true, true, true, true, true, true, true, true, true, false, false, false, false, false, false, false, false, false, false, false, false, false, false, false, false, false, false, false, false, false, false] rfl rfl (by kernel_rfl) (fun _ _ _ h => h) (Or.inl ⟨by rfl, ?_⟩) ?_ ?_
                                              rotate_left
                                              · intro w'
                                                go_simp
                                                with_reducible rfl
                                              rotate_left
                                              · simp only [Act.put, List.setIfInBounds_toArray, List.set_cons_zero, List.set_cons_succ, i64_w, i32_w]
                                                rfl
                                              refine pure_ (i := 12) (N := some 197) (v := ?_) (a' := ?_) #[true, true, true, true, true, true, true, true, true, true, true, true, true, false, false, false, false, false, false, false, false, false, false, false, false, false, false, false, false, false, false, false, false, false] rfl rfl (by kernel_rfl) (fun _ _ _ h => h) (Or.inl ⟨by rfl, ?_⟩) ?_ ?_
                                              rotate_left
                                              · intro w'
                                                go_simp
                                                with_reducible rfl
                                              rotate_left
                                              · simp only [Act.put, List.setIfInBounds_toArray, List.set_cons_zero, List.set_cons_succ, i64_w, i32_w]
                                                rfl
                                              by_cases c4792 : t4607.1 = (rd x4460 x4754)
                                              · replace AL4751 := if_yes c4792 AL4751
                                                have c4792b0 : (t4607.1 == (rd x4460 x4754)) = true := beq_iff_eq.mpr c4792
                                                have c4792b1 : (t4607.1 != (rd x4460 x4754)) = false := bne_eq_false_iff_eq.mpr c4792
                                                clear c4792
                                                try simp only [c4792b0, c4792b1, Bool.not_true, Bool.not_false]
                                                refine pure_ (i := 13) (N := some 198) (v := ?_) (a' := ?_) #[true, true, true, true, true, true, true, true, true, true, true, true, true, true, false, false, false, false, false, false, false, false, false, false, false, false, false, false, false, false, false, false, false, false] rfl rfl (by kernel_rfl) (fun _ _ _ h => h) (Or.inl ⟨by rfl, ?_⟩) ?_ ?_
                                                rotate_left
                                                · intro w'
                                                  go_simp
                                                  with_reducible rfl
                                                rotate_left
                                                · simp only [Act.put, List.setIfInBounds_toArray, List.set_cons_zero, List.set_cons_succ, i64_w, i32_w]
                                                  rfl
                                                try simp only [c4792b0, c4792b1, Bool.not_true, Bool.not_false]
                                                refine pure_ (i := 15) (N := some 200) (v := ?_) (a' := ?_) #[true, true, true, true, true, true, true, true, true, true, true, true, true, true, false, true, false, false, false, false, false, false, false, false, false, false, false, false, false, false, false, false, false, false] rfl rfl (by kernel_rfl) (fun _ _ _ h => h) (Or.inl ⟨by rfl, ?_⟩) ?_ ?_
                                                rotate_left
                                                · intro w'
                                                  go_simp
                                                  with_reducible rfl
                                                rotate_left
                                                · simp only [Act.put, List.setIfInBounds_toArray, List.set_cons_zero, List.set_cons_succ, i64_w, i32_w]
                                                  rfl
                                                try simp only [c4792b0, c4792b1, Bool.not_true, Bool.not_false]
                                                refine pure_ (i := 16) (N := some 201) (v := ?_) (a' := ?_) #[true, true, true, true, true, true, true, true, true, true, true, true, true, true, false, true, true, false, false, false, false, false, false, false, false, false, false, false, false, false, false, false, false, false] rfl rfl (by kernel_rfl) (fun _ _ _ h => h) (Or.inl ⟨by rfl, ?_⟩) ?_ ?_
                                                rotate_left
                                                · intro w'
                                                  go_simp
                                                  with_reducible rfl
                                                rotate_left
                                                · simp only [Act.put, List.setIfInBounds_toArray, List.set_cons_zero, List.set_cons_succ, i64_w, i32_w]
                                                  rfl
                                                by_cases c4793 : x4754 < (x3703.length : Int)
                                                · replace AL4751 := if_yes c4793 AL4751
                                                  have c4793b0 : decide (x4754 < (x3703.length : Int)) = true := decide_eq_true c4793
                                                  have c4793p : (x4754 < (x3703.length : Int)) = True := eq_true c4793
                                                  clear c4793
                                                  obtain ⟨g4794, ea⟩ := orow_at (HS.out.at5) (by have := (of_decide_eq_true c4757b0); have := (of_decide_eq_true c4793b0); omega)
                                                  cases ea
                                                  try simp only [c4792b0, c4792b1, Bool.not_true, Bool.not_false]
                                                  refine pure_ (i := 17) (N := some 202) (v := ?_) (a' := ?_) #[true, true, true, true, true, true, true, true, true, true, true, true, true, true, false, true, true, true, false, false, false, false, false, false, false, false, false, false, false, false, false, false, false, false] rfl rfl (by kernel_rfl) (fun _ _ _ h => h) (Or.inl ⟨by rfl, ?_⟩) ?_ ?_
                                                  rotate_left
                                                  · intro w'
                                                    go_simp
                                                    with_reducible rfl
                                                  rotate_left
                                                  · simp only [Act.put, List.setIfInBounds_toArray, List.set_cons_zero, List.set_cons_succ, i64_w, i32_w]
                                                    rfl
                                                  try simp only [c4792b0, c4792b1, Bool.not_true, Bool.not_false]
                                                  refine pure_ (i := 18) (N := some 203) (v := ?_) (a' := ?_) #[true, true, true, true, true, true, true, true, true, true, true, true, true, true, false, true, true, true, true, false, false, false, false, false, false, false, false, false, false, false, false, false, false, false] rfl rfl (by kernel_rfl) (fun _ _ _ h => h) (Or.inl ⟨by rfl, ?_⟩) ?_ ?_
                                                  rotate_left
                                                  · intro w'
                                                    go_simp
                                                    with_reducible rfl
                                                  rotate_left
                                                  · simp only [Act.put, List.setIfInBounds_toArray, List.set_cons_zero, List.set_cons_succ, i64_w, i32_w]
                                                    rfl
                                                  try simp only [c4792b0, c4792b1, Bool.not_true, Bool.not_false]
                                                  refine take_ (i := 14) (N := some 199) (v := ?_) (a' := ?_) #[true, true, true, true, true, true, true, true, true, true, true, true, true, true, true, true, true, true, true, false, false, false, false, false, false, false, false, false, false, false, false, false, false, false] rfl rfl (by kernel_rfl) (fun _ _ _ h => h) (Or.inl ⟨by rfl, ?_⟩) hHeld ?_ ?_
                                                  rotate_left
                                                  · rintro w' hS'
                                                    obtain ⟨s0, s1, s2, s3⟩ := hS'
                                                    go_simp
                                                    with_reducible rfl
                                                  rotate_left
                                                  · simp only [Act.put, List.setIfInBounds_toArray, List.set_cons_zero, List.set_cons_succ, i64_w, i32_w]
                                                    rfl
                                                  try simp only [c4792b0, c4792b1, Bool.not_true, Bool.not_false]
                                                  refine take_ (i := 19) (N := some 204) (v := ?_) (a' := ?_) #[true, true, true, true, true, true, true, true, true, true, true, true, true, true, true, true, true, true, true, true, false, false, false, false, false, false, false, false, false, false, false, false, false, false] rfl rfl (by kernel_rfl) (fun _ _ _ h => h) (Or.inl ⟨by rfl, ?_⟩) hHeld ?_ ?_
                                                  rotate_left
                                                  · rintro w' hS'
                                                    obtain ⟨s0, s1, s2, s3⟩ := hS'
                                                    obtain ⟨_, ea, hx⟩ := (s2 x4754 (of_decide_eq_true c4757b0) (of_decide_eq_true c4793b0)).1
                                                    cases ea
                                                    rw [add_plain] at hx
                                                    go_simp
                                                    with_reducible rfl
                                                  rotate_left
                                                  · simp only [Act.put, List.setIfInBounds_toArray, List.set_cons_zero, List.set_cons_succ, i64_w, i32_w]
                                                    rfl
                                                  try simp only [c4792b0, c4792b1, Bool.not_true, Bool.not_false]
                                                  refine one_ (i := 20) (N := some 205) #[true, true, true, true, true, true, true, true, true, true, true, true, true, true, true, true, true, true, true, true, true, false, false, false, false, false, false, false, false, false, false, false, false, false] rfl rfl (by kernel_rfl) (by decide) (fun K hK => ?_)
                                                  obtain ⟨t4652, HA4795, AL4751⟩ := bind_some AL4751
                                                  refine goes_ Tryd.func32 (by kernel_rfl) rfl #[.slice A4766 ((t4548.2.1).length) n4768, .slice ((rdOf ((none, 0), (none, 0)) n3706.2 x4754).1.1) ((rdOf ([], []) x3703 x4754).1.length) ((rdOf ((none, 0), (none, 0)) n3706.2 x4754).1.2)] (by rfl) rfl rfl (by (try simp only [List.map_toArray, List.map_cons, List.map_nil]); first | done | rfl) ?_
                                                  refine (quitrentref01_Ints.calls _ t4548.2.1 ((rdOf ([], []) x3703 x4754).1) A4766 n4768 ((rdOf ((none, 0), (none, 0)) n3706.2 x4754).1.1) ((rdOf ((none, 0), (none, 0)) n3706.2 x4754).1.2) t4652 _ ⟨Rd.ownI (l := []) HS.out 3 rfl⟩ ⟨Rd.inn1 (l := []) HS.out 5 rfl x4754 (of_decide_eq_true c4757b0) (of_decide_eq_true c4793b0)⟩ ⟨HGl0.out.pass (l := []) HS.out⟩ ⟨Sep.start _⟩ HA4795).mono ?_
                                                  rintro e_ w4796 ⟨rfl, hS⟩
                                                  replace HS : Aside0 (Sep (fps []) w [b7 g3123 g3124 t3116.1 t3116.2.1 t3116.2.2.1 t3116.2.2.2.1, b6 g3124 A3125 ((t3116.2.2.2.2).length) n3127 t4607.2, r5 A3125 ((t3116.2.2.2.2).length) n3127 x4459, r16 A4766 ((t4548.2.1).length) n4768 t4548.2.1, r5 A4770 ((t4548.2.2).length) n4772 t4548.2.2, r20 (some ⟨g4794, 0, none⟩) x3703.length n3706 x3703, r16 (some ⟨g4759, 0, none⟩) x3650.length n3653 x3650, r16 (some ⟨g4186, 0, none⟩) m4182 m4182 x4460, b23 g4774 A4766 ((t4548.2.1).length) n4768 A4770 ((t4548.2.2).length) n4772] w4796) := ⟨HS.out.call hS⟩
                                                  clear hS
                                                  refine ⟨_, rfl, ?_⟩
                                                  refine hK.out _ _ (⟨row_Ci (HS.out.at7), blk_cellv (HS.out.at8) 0 rfl, ocells_of (HS.out.at5), blk_cellv (HS.out.at8) 1 rfl⟩) (fun hHeld => ?_)
                                                  clear hK K
                                                  refine norm_ (a' := ?_) ?_ ?_
                                                  rotate_left
                                                  · show Act.put _ (some 205) _ = _
                                                    simp only [Act.put, List.setIfInBounds_toArray, List.set_cons_zero, List.set_cons_succ, i64_w, i32_w]
                                                    rfl
                                                  try simp only [c4792b0, c4792b1, Bool.not_true, Bool.not_false]
                                                  refine pure_ (i := 21) (N := some 206) (v := ?_) (a' := ?_) #[true, true, true, true, true, true, true, true, true, true, true, true, true, true, true, true, true, true, true, true, true, true, false, false, false, false, false, false, false, false, false, false, false, false] rfl rfl (by kernel_rfl) (fun _ _ _ h => h) (Or.inl ⟨by rfl, ?_⟩) ?_ ?_
                                                  rotate_left
                                                  · intro w'
                                                    go_simp
                                                    with_reducible rfl
                                                  rotate_left
                                                  · simp only [Act.put, List.setIfInBounds_toArray, List.set_cons_zero, List.set_cons_succ, i64_w, i32_w]
                                                    rfl
                                                  refine pure_ (i := 22) (N := some 207) (v := ?_) (a' := ?_) #[true, true, true, true, true, true, true, true, true, true, true, true, true, true, true, true, true, true, true, true, true, true, true, false, false, false, false, false, false, false, false, false, false, false] rfl rfl (by kernel_rfl) (fun _ _ _ h => h) (Or.inl ⟨by rfl, ?_⟩) ?_ ?_
                                                  rotate_left
                                                  · intro w'
                                                    go_simp
                                                    with_reducible rfl
                                                  rotate_left
                                                  · simp only [Act.put, List.setIfInBounds_toArray, List.set_cons_zero, List.set_cons_succ, i64_w, i32_w]
                                                    rfl
                                                  refine pure_ (i := 23) (N := some 208) (v := ?_) (a' := ?_) #[true, true, true, true, true, true, true, true, true, true, true, true, true, true, true, true, true, true, true, true, true, true, true, true, false, false, false, false, false, false, false, false, false, false] rfl rfl (by kernel_rfl) (fun _ _ _ h => h) (Or.inl ⟨by rfl, ?_⟩) ?_ ?_
                                                  rotate_left
                                                  · intro w'
                                                    go_simp
                                                    with_reducible rfl
                                                  rotate_left
                                                  · simp only [Act.put, List.setIfInBounds_toArray, List.set_cons_zero, List.set_cons_succ, i64_w, i32_w]
                                                    rfl
                                                  by_cases c4797 : t4652 = true
                                                  · replace AL4751 := if_yes c4797 AL4751
                                                    have c4797b0 : t4652 = true := c4797
                                                    have c4797b1 : (!t4652) = false := by rw [c4797b0]; rfl
                                                    try rw [c4797b1]
                                                    clear c4797
                                                    try simp only [c4797b0, Bool.not_true, Bool.not_false]
                                                    refine pure_ (i := 24) (N := some 209) (v := ?_) (a' := ?_) #[true, true, true, true, true, true, true, true, true, true, true, true, true, true, true, true, true, true, true, true, true, true, true, true, true, false, false, false, false, false, false, false, false, false] rfl rfl (by kernel_rfl) (fun _ _ _ h => h) (Or.inl ⟨by rfl, ?_⟩) ?_ ?_
                                                    rotate_left
                                                    · intro w'
                                                      go_simp
                                                      with_reducible rfl
                                                    rotate_left
                                                    · simp only [Act.put, List.setIfInBounds_toArray, List.set_cons_zero, List.set_cons_succ, i64_w, i32_w]
                                                      rfl
                                                    try simp only [c4797b0, Bool.not_true, Bool.not_false]
                                                    refine pure_ (i := 26) (N := some 211) (v := ?_) (a' := ?_) #[true, true, true, true, true, true, true, true, true, true, true, true, true, true, true, true, true, true, true, true, true, true, true, true, true, false, true, false, false, false, false, false, false, false] rfl rfl (by kernel_rfl) (fun _ _ _ h => h) (Or.inl ⟨by rfl, ?_⟩) ?_ ?_
                                                    rotate_left
                                                    · intro w'
                                                      go_simp
                                                      with_reducible rfl
                                                    rotate_left
                                                    · simp only [Act.put, List.setIfInBounds_toArray, List.set_cons_zero, List.set_cons_succ, i64_w, i32_w]
                                                      rfl
                                                    try simp only [c4797b0, Bool.not_true, Bool.not_false]
                                                    refine pure_ (i := 27) (N := some 212) (v := ?_) (a' := ?_) #[true, true, true, true, true, true, true, true, true, true, true, true, true, true, true, true, true, true, true, true, true, true, true, true, true, false, true, true, false, false, false, false, false, false] rfl rfl (by kernel_rfl) (fun _ _ _ h => h) (Or.inl ⟨by rfl, ?_⟩) ?_ ?_
                                                    rotate_left
                                                    · intro w'
                                                      go_simp
                                                      with_reducible rfl
                                                    rotate_left
                                                    · simp only [Act.put, List.setIfInBounds_toArray, List.set_cons_zero, List.set_cons_succ, i64_w, i32_w]
                                                      rfl
                                                    try simp only [c4797b0, Bool.not_true, Bool.not_false]
                                                    refine pure_ (i := 28) (N := some 213) (v := ?_) (a' := ?_) #[true, true, true, true, true, true, true, true, true, true, true, true, true, true, true, true, true, true, true, true, true, true, true, true, true, false, true, true, true, false, false, false, false, false] rfl rfl (by kernel_rfl) (fun _ _ _ h => h) (Or.inl ⟨by rfl, ?_⟩) ?_ ?_
                                                    rotate_left
                                                    · intro w'
                                                      go_simp
                                                      with_reducible rfl
                                                    rotate_left
                                                    · simp only [Act.put, List.setIfInBounds_toArray, List.set_cons_zero, List.set_cons_succ, i64_w, i32_w]
                                                      rfl
                                                    try simp only [c4797b0, Bool.not_true, Bool.not_false]
                                                    refine pure_ (i := 29) (N := some 214) (v := ?_) (a' := ?_) #[true, true, true, true, true, true, true, true, true, true, true, true, true, true, true, true, true, true, true, true, true, true, true, true, true, false, true, true, true, true, false, false, false, false] rfl rfl (by kernel_rfl) (fun _ _ _ h => h) (Or.inl ⟨by rfl, ?_⟩) ?_ ?_
                                                    rotate_left
                                                    · intro w'
                                                      go_simp
                                                      with_reducible rfl
                                                    rotate_left
                                                    · simp only [Act.put, List.setIfInBounds_toArray, List.set_cons_zero, List.set_cons_succ, i64_w, i32_w]
                                                      rfl
                                                    try simp only [c4797b0, Bool.not_true, Bool.not_false]
                                                    refine take_ (i := 25) (N := some 210) (v := ?_) (a' := ?_) #[true, true, true, true, true, true, true, true, true, true, true, true, true, true, true, true, true, true, true, true, true, true, true, true, true, true, true, true, true, true, false, false, false, false] rfl rfl (by kernel_rfl) (fun _ _ _ h => h) (Or.inl ⟨by rfl, ?_⟩) hHeld ?_ ?_
                                                    rotate_left
                                                    · rintro w' hS'
                                                      obtain ⟨s0, s1, s2, s3⟩ := hS'
                                                      go_simp
                                                      with_reducible rfl
                                                    rotate_left
                                                    · simp only [Act.put, List.setIfInBounds_toArray, List.set_cons_zero, List.set_cons_succ, i64_w, i32_w]
                                                      rfl
                                                    try simp only [c4797b0, Bool.not_true, Bool.not_false]
                                                    refine take_ (i := 30) (N := some 215) (v := ?_) (a' := ?_) #[true, true, true, true, true, true, true, true, true, true, true, true, true, true, true, true, true, true, true, true, true, true, true, true, true, true, true, true, true, true, true, false, false, false] rfl rfl (by kernel_rfl) (fun _ _ _ h => h) (Or.inl ⟨by rfl, ?_⟩) hHeld ?_ ?_
                                                    rotate_left
                                                    · rintro w' hS'
                                                      obtain ⟨s0, s1, s2, s3⟩ := hS'
                                                      obtain ⟨_, ea, hx⟩ := (s2 x4754 (of_decide_eq_true c4757b0) (of_decide_eq_true c4793b0)).2
                                                      cases ea
                                                      rw [add_plain] at hx
                                                      go_simp
                                                      with_reducible rfl
                                                    rotate_left
                                                    · simp only [Act.put, List.setIfInBounds_toArray, List.set_cons_zero, List.set_cons_succ, i64_w, i32_w]
                                                      rfl
                                                    try simp only [c4797b0, Bool.not_true, Bool.not_false]
                                                    refine one_ (i := 31) (N := some 216) #[true, true, true, true, true, true, true, true, true, true, true, true, true, true, true, true, true, true, true, true, true, true, true, true, true, true, true, true, true, true, true, true, false, false] rfl rfl (by kernel_rfl) (by decide) (fun K hK => ?_)
                                                    obtain ⟨t4695, HA4798, AL4751⟩ := bind_some AL4751
                                                    refine goes_ Tryd.func40 (by kernel_rfl) rfl #[.slice A4770 ((t4548.2.2).length) n4772, .slice ((rdOf ((none, 0), (none, 0)) n3706.2 x4754).2.1) ((rdOf ([], []) x3703 x4754).2.length) ((rdOf ((none, 0), (none, 0)) n3706.2 x4754).2.2)] (by rfl) rfl rfl (by (try simp only [List.map_toArray, List.map_cons, List.map_nil]); first | done | rfl) ?_
                                                    refine (quitrentref01_Same.calls _ t4548.2.2 ((rdOf ([], []) x3703 x4754).2) A4770 n4772 ((rdOf ((none, 0), (none, 0)) n3706.2 x4754).2.1) ((rdOf ((none, 0), (none, 0)) n3706.2 x4754).2.2) t4695 _ ⟨Rd.ownI (l := []) HS.out 4 rfl⟩ ⟨Rd.inn2 (l := []) HS.out 5 rfl x4754 (of_decide_eq_true c4757b0) (of_decide_eq_true c4793b0)⟩ ⟨HGl0.out.pass (l := []) HS.out⟩ ⟨Sep.start _⟩ HA4798).mono ?_
                                                    rintro e_ w4799 ⟨rfl, hS⟩
                                                    replace HS : Aside0 (Sep (fps []) w [b7 g3123 g3124 t3116.1 t3116.2.1 t3116.2.2.1 t3116.2.2.2.1, b6 g3124 A3125 ((t3116.2.2.2.2).length) n3127 t4607.2, r5 A3125 ((t3116.2.2.2.2).length) n3127 x4459, r16 A4766 ((t4548.2.1).length) n4768 t4548.2.1, r5 A4770 ((t4548.2.2).length) n4772 t4548.2.2, r20 (some ⟨g4794, 0, none⟩) x3703.length n3706 x3703, r16 (some ⟨g4759, 0, none⟩) x3650.length n3653 x3650, r16 (some ⟨g4186, 0, none⟩) m4182 m4182 x4460, b23 g4774 A4766 ((t4548.2.1).length) n4768 A4770 ((t4548.2.2).length) n4772] w4799) := ⟨HS.out.call hS⟩
                                                    clear hS
                                                    refine ⟨_, rfl, ?_⟩
                                                    refine hK.out _ _ (⟨row_Ci (HS.out.at7), blk_cellv (HS.out.at8) 0 rfl, ocells_of (HS.out.at5), blk_cellv (HS.out.at8) 1 rfl⟩) (fun hHeld => ?_)
                                                    clear hK K
                                                    refine norm_ (a' := ?_) ?_ ?_
                                                    rotate_left
                                                    · show Act.put _ (some 216) _ = _
                                                      simp only [Act.put, List.setIfInBounds_toArray, List.set_cons_zero, List.set_cons_succ, i64_w, i32_w]
                                                      rfl
                                                    try simp only [c4797b0, Bool.not_true, Bool.not_false]
                                                    refine pure_ (i := 32) (N := some 217) (v := ?_) (a' := ?_) #[true, true, true, true, true, true, true, true, true, true, true, true, true, true, true, true, true, true, true, true, true, true, true, true, true, true, true, true, true, true, true, true, true, false] rfl rfl (by kernel_rfl) (fun _ _ _ h => h) (Or.inl ⟨by rfl, ?_⟩) ?_ ?_
                                                    rotate_left
                                                    · intro w'
                                                      go_simp
                                                      with_reducible rfl
                                                    rotate_left
                                                    · simp only [Act.put, List.setIfInBounds_toArray, List.set_cons_zero, List.set_cons_succ, i64_w, i32_w]
                                                      rfl
                                                    refine pure_ (i := 33) (N := some 218) (v := ?_) (a' := ?_) #[true, true, true, true, true, true, true, true, true, true, true, true, true, true, true, true, true, true, true, true, true, true, true, true, true, true, true, true, true, true, true, true, true, true] rfl rfl (by kernel_rfl) (fun _ _ _ h => h) (Or.inl ⟨by rfl, ?_⟩) ?_ ?_
                                                    rotate_left
                                                    · intro w'
                                                      go_simp
                                                      with_reducible rfl
                                                    rotate_left
                                                    · simp only [Act.put, List.setIfInBounds_toArray, List.set_cons_zero, List.set_cons_succ, i64_w, i32_w]
                                                      rfl
                                                    refine done_ (by kernel_rfl) ?_
                                                    by_cases c4800 : t4695 = true
                                                    · replace AL4751 := if_yes c4800 AL4751
                                                      have c4800b0 : t4695 = true := c4800
                                                      have c4800b1 : (!t4695) = false := by rw [c4800b0]; rfl
                                                      try rw [c4800b1]
                                                      clear c4800
                                                      replace HS : Aside0 (Sep (fps []) w [b7 g3123 g3124 t3116.1 t3116.2.1 t3116.2.2.1 t3116.2.2.2.1, b6 g3124 A3125 ((t3116.2.2.2.2).length) n3127 t4607.2, r5 A3125 ((t3116.2.2.2.2).length) n3127 x4459, r20 (some ⟨g4794, 0, none⟩) x3703.length n3706 x3703, r16 (some ⟨g4759, 0, none⟩) x3650.length n3653 x3650, r16 (some ⟨g4186, 0, none⟩) m4182 m4182 x4460] w4799) := ⟨HS.out.sub (.cons_cons _ (.cons_cons _ (.cons_cons _ (.cons _ (.cons _ (.cons_cons _ (.cons_cons _ (.cons_cons _ (.cons _ .slnil)))))))))⟩
                                                      go_wp2_with fail
                                                      go_roundg k4753
                                                      case measure => exact Nat.lt_succ_self _
                                                      case rel => exact ⟨(wrap64 (x4754 + 1)), (t4607.2), (by first | rfl | (simp [IntKind.wrap_u32]; done)), Aside0.mk AL4751.out, ⟨(((((((HS.out).front 5 (by simp)).front 3 (by simp)).front 3 (by simp)).front 3 (by simp)).front 5 (by simp)).front 5 (by simp)).keep (l := [r20 (some ⟨g4794, 0, none⟩) x3703.length n3706 x3703, r16 (some ⟨g4759, 0, none⟩) x3650.length n3653 x3650, b7 g3123 g3124 t3116.1 t3116.2.1 t3116.2.2.1 t3116.2.2.2.1, b6 g3124 A3125 ((t3116.2.2.2.2).length) n3127 t4607.2, r5 A3125 ((t3116.2.2.2.2).length) n3127 x4459, r16 (some ⟨g4186, 0, none⟩) m4182 m4182 x4460]) (rest := [])⟩⟩
                                                    · replace AL4751 := if_no c4800 AL4751
                                                      have c4800b0 : t4695 = false := by simpa using c4800
                                                      have c4800b1 : (!t4695) = true := by rw [c4800b0]; rfl
                                                      try rw [c4800b1]
                                                      clear c4800
                                                      replace HS : Aside0 (Sep (fps []) w [b7 g3123 g3124 t3116.1 t3116.2.1 t3116.2.2.1 t3116.2.2.2.1, b6 g3124 A3125 ((t3116.2.2.2.2).length) n3127 t4607.2, r5 A3125 ((t3116.2.2.2.2).length) n3127 x4459, r20 (some ⟨g4794, 0, none⟩) x3703.length n3706 x3703, r16 (some ⟨g4759, 0, none⟩) x3650.length n3653 x3650, r16 (some ⟨g4186, 0, none⟩) m4182 m4182 x4460] w4799) := ⟨HS.out.sub (.cons_cons _ (.cons_cons _ (.cons_cons _ (.cons _ (.cons _ (.cons_cons _ (.cons_cons _ (.cons_cons _ (.cons _ .slnil)))))))))⟩
                                                      go_wp2_with fail
                                                      have ho := some_eq AL4751
                                                      subst ho
                                                      have H := lp_ret H
                                                      go_ret
                                                      rw [← some_eq H]
                                                      exact ⟨(by first | rfl | (simp [IntKind.wrap_u32]; done)), HS.out.sub (.cons _ (.cons _ (.cons _ (.cons _ (.cons _ (.cons _ .slnil))))))⟩
                                                  · replace AL4751 := if_no c4797 AL4751
                                                    have c4797b0 : t4652 = false := by simpa using c4797
                                                    have c4797b1 : (!t4652) = true := by rw [c4797b0]; rfl
                                                    try rw [c4797b1]
                                                    clear c4797
                                                    try simp only [c4797b0, Bool.not_true, Bool.not_false]
                                                    refine pure_ (i := 24) (N := some 209) (v := undef) (a' := ?_) #[true, true, true, true, true, true, true, true, true, true, true, true, true, true, true, true, true, true, true, true, true, true, true, true, true, false, false, false, false, false, false, false, false, false] rfl rfl (by kernel_rfl) (fun _ _ _ h => h) (Or.inr ⟨by rfl, rfl⟩) ?_ ?_
                                                    rotate_left
                                                    · simp only [Act.put, List.setIfInBounds_toArray, List.set_cons_zero, List.set_cons_succ, i64_w, i32_w]
                                                      rfl
                                                    try simp only [c4797b0, Bool.not_true, Bool.not_false]
                                                    refine pure_ (i := 25) (N := some 210) (v := undef) (a' := ?_) #[true, true, true, true, true, true, true, true, true, true, true, true, true, true, true, true, true, true, true, true, true, true, true, true, true, true, false, false, false, false, false, false, false, false] rfl rfl (by kernel_rfl) (fun _ _ _ h => h) (Or.inr ⟨by rfl, rfl⟩) ?_ ?_
                                                    rotate_left
                                                    · simp only [Act.put, List.setIfInBounds_toArray, List.set_cons_zero, List.set_cons_succ, i64_w, i32_w]
                                                      rfl
                                                    try simp only [c4797b0, Bool.not_true, Bool.not_false]
                                                    refine pure_ (i := 26) (N := some 211) (v := undef) (a' := ?_) #[true, true, true, true, true, true, true, true, true, true, true, true, true, true, true, true, true, true, true, true, true, true, true, true, true, true, true, false, false, false, false, false, false, false] rfl rfl (by kernel_rfl) (fun _ _ _ h => h) (Or.inr ⟨by rfl, rfl⟩) ?_ ?_
                                                    rotate_left
                                                    · simp only [Act.put, List.setIfInBounds_toArray, List.set_cons_zero, List.set_cons_succ, i64_w, i32_w]
                                                      rfl
                                                    try simp only [c4797b0, Bool.not_true, Bool.not_false]
                                                    refine pure_ (i := 27) (N := some 212) (v := undef) (a' := ?_) #[true, true, true, true, true, true, true, true, true, true, true, true, true, true, true, true, true, true, true, true, true, true, true, true, true, true, true, true, false, false, false, false, false, false] rfl rfl (by kernel_rfl) (fun _ _ _ h => h) (Or.inr ⟨by rfl, rfl⟩) ?_ ?_
                                                    rotate_left
                                                    · simp only [Act.put, List.setIfInBounds_toArray, List.set_cons_zero, List.set_cons_succ, i64_w, i32_w]
                                                      rfl
                                                    try simp only [c4797b0, Bool.not_true, Bool.not_false]
                                                    refine pure_ (i := 28) (N := some 213) (v := undef) (a' := ?_) #[true, true, true, true, true, true, true, true, true, true, true, true, true, true, true, true, true, true, true, true, true, true, true, true, true, true, true, true, true, false, false, false, false, false] rfl rfl (by kernel_rfl) (fun _ _ _ h => h) (Or.inr ⟨by rfl, rfl⟩) ?_ ?_
                                                    rotate_left
                                                    · simp only [Act.put, List.setIfInBounds_toArray, List.set_cons_zero, List.set_cons_succ, i64_w, i32_w]
                                                      rfl
                                                    try simp only [c4797b0, Bool.not_true, Bool.not_false]
                                                    refine pure_ (i := 29) (N := some 214) (v := undef) (a' := ?_) #[true, true, true, true, true, true, true, true, true, true, true, true, true, true, true, true, true, true, true, true, true, true, true, true, true, true, true, true, true, true, false, false, false, false] rfl rfl (by kernel_rfl) (fun _ _ _ h => h) (Or.inr ⟨by rfl, rfl⟩) ?_ ?_
                                                    rotate_left
                                                    · simp only [Act.put, List.setIfInBounds_toArray, List.set_cons_zero, List.set_cons_succ, i64_w, i32_w]
                                                      rfl
                                                    try simp only [c4797b0, Bool.not_true, Bool.not_false]
                                                    refine pure_ (i := 30) (N := some 215) (v := undef) (a' := ?_) #[true, true, true, true, true, true, true, true, true, true, true, true, true, true, true, true, true, true, true, true, true, true, true, true, true, true, true, true, true, true, true, false, false, false] rfl rfl (by kernel_rfl) (fun _ _ _ h => h) (Or.inr ⟨by rfl, rfl⟩) ?_ ?_
                                                    rotate_left
                                                    · simp only [Act.put, List.setIfInBounds_toArray, List.set_cons_zero, List.set_cons_succ, i64_w, i32_w]
                                                      rfl
                                                    try simp only [c4797b0, Bool.not_true, Bool.not_false]
                                                    refine pure_ (i := 31) (N := some 216) (v := undef) (a' := ?_) #[true, true, true, true, true, true, true, true, true, true, true, true, true, true, true, true, true, true, true, true, true, true, true, true, true, true, true, true, true, true, true, true, false, false] rfl rfl (by kernel_rfl) (fun _ _ _ h => h) (Or.inr ⟨by rfl, rfl⟩) ?_ ?_
                                                    rotate_left
                                                    · simp only [Act.put, List.setIfInBounds_toArray, List.set_cons_zero, List.set_cons_succ, i64_w, i32_w]
                                                      rfl
                                                    try simp only [c4797b0, Bool.not_true, Bool.not_false]
                                                    refine pure_ (i := 32) (N := some 217) (v := undef) (a' := ?_) #[true, true, true, true, true, true, true, true, true, true, true, true, true, true, true, true, true, true, true, true, true, true, true, true, true, true, true, true, true, true, true, true, true, false] rfl rfl (by kernel_rfl) (fun _ _ _ h => h) (Or.inr ⟨by rfl, rfl⟩) ?_ ?_
                                                    rotate_left
                                                    · simp only [Act.put, List.setIfInBounds_toArray, List.set_cons_zero, List.set_cons_succ, i64_w, i32_w]
                                                      rfl
                                                    refine pure_ (i := 33) (N := some 218) (v := ?_) (a' := ?_) #[true, true, true, true, true, true, true, true, true, true, true, true, true, true, true, true, true, true, true, true, true, true, true, true, true, true, true, true, true, true, true, true, true, true] rfl rfl (by kernel_rfl) (fun _ _ _ h => h) (Or.inl ⟨by rfl, ?_⟩) ?_ ?_
                                                    rotate_left
                                                    · intro w'
                                                      go_simp
                                                      with_reducible rfl
                                                    rotate_left
                                                    · simp only [Act.put, List.setIfInBounds_toArray, List.set_cons_zero, List.set_cons_succ, i64_w, i32_w]
                                                      rfl
                                                    refine done_ (by kernel_rfl) ?_
                                                    replace HS : Aside0 (Sep (fps []) w [b7 g3123 g3124 t3116.1 t3116.2.1 t3116.2.2.1 t3116.2.2.2.1, b6 g3124 A3125 ((t3116.2.2.2.2).length) n3127 t4607.2, r5 A3125 ((t3116.2.2.2.2).length) n3127 x4459, r20 (some ⟨g4794, 0, none⟩) x3703.length n3706 x3703, r16 (some ⟨g4759, 0, none⟩) x3650.length n3653 x3650, r16 (some ⟨g4186, 0, none⟩) m4182 m4182 x4460] w4796) := ⟨HS.out.sub (.cons_cons _ (.cons_cons _ (.cons_cons _ (.cons _ (.cons _ (.cons_cons _ (.cons_cons _ (.cons_cons _ (.cons _ .slnil)))))))))⟩
                                                    go_wp2_with fail
                                                    have ho := some_eq AL4751
                                                    subst ho
                                                    have H := lp_ret H
                                                    go_ret
                                                    rw [← some_eq H]
                                                    exact ⟨(by first | rfl | (simp [IntKind.wrap_u32]; done)), HS.out.sub (.cons _ (.cons _ (.cons _ (.cons _ (.cons _ (.cons _ .slnil))))))⟩
                                                · replace AL4751 := if_no c4793 AL4751
                                                  have c4793b0 : decide (x4754 < (x3703.length : Int)) = false := decide_eq_false c4793
                                                  clear c4793
                                                  exact (none_no AL4751).elim
                                              · replace AL4751 := if_no c4792 AL4751
                                                have c4792b0 : (t4607.1 == (rd x4460 x4754)) = false := beq_eq_false_iff_ne.mpr c4792
                                                have c4792b1 : (t4607.1 != (rd x4460 x4754)) = true := bne_iff_ne.mpr c4792
                                                clear c4792
                                                try simp only [c4792b0, c4792b1, Bool.not_true, Bool.not_false]
                                                refine pure_ (i := 13) (N := some 198) (v := undef) (a' := ?_) #[true, true, true, true, true, true, true, true, true, true, true, true, true, true, false, false, false, false, false, false, false, false, false, false, false, false, false, false, false, false, false, false, false, false] rfl rfl (by kernel_rfl) (fun _ _ _ h => h) (Or.inr ⟨by rfl, rfl⟩) ?_ ?_
                                                rotate_left
                                                · simp only [Act.put, List.setIfInBounds_toArray, List.set_cons_zero, List.set_cons_succ, i64_w, i32_w]
                                                  rfl
                                                try simp only [c4792b0, c4792b1, Bool.not_true, Bool.not_false]
                                                refine pure_ (i := 14) (N := some 199) (v := undef) (a' := ?_) #[true, true, true, true, true, true, true, true, true, true, true, true, true, true, true, false, false, false, false, false, false, false, false, false, false, false, false, false, false, false, false, false, false, false] rfl rfl (by kernel_rfl) (fun _ _ _ h => h) (Or.inr ⟨by rfl, rfl⟩) ?_ ?_
                                                rotate_left
                                                · simp only [Act.put, List.setIfInBounds_toArray, List.set_cons_zero, List.set_cons_succ, i64_w, i32_w]
                                                  rfl
                                                try simp only [c4792b0, c4792b1, Bool.not_true, Bool.not_false]
                                                refine pure_ (i := 15) (N := some 200) (v := undef) (a' := ?_) #[true, true, true, true, true, true, true, true, true, true, true, true, true, true, true, true, false, false, false, false, false, false, false, false, false, false, false, false, false, false, false, false, false, false] rfl rfl (by kernel_rfl) (fun _ _ _ h => h) (Or.inr ⟨by rfl, rfl⟩) ?_ ?_
                                                rotate_left
                                                · simp only [Act.put, List.setIfInBounds_toArray, List.set_cons_zero, List.set_cons_succ, i64_w, i32_w]
                                                  rfl
                                                try simp only [c4792b0, c4792b1, Bool.not_true, Bool.not_false]
                                                refine pure_ (i := 16) (N := some 201) (v := undef) (a' := ?_) #[true, true, true, true, true, true, true, true, true, true, true, true, true, true, true, true, true, false, false, false, false, false, false, false, false, false, false, false, false, false, false, false, false, false] rfl rfl (by kernel_rfl) (fun _ _ _ h => h) (Or.inr ⟨by rfl, rfl⟩) ?_ ?_
                                                rotate_left
                                                · simp only [Act.put, List.setIfInBounds_toArray, List.set_cons_zero, List.set_cons_succ, i64_w, i32_w]
                                                  rfl
                                                try simp only [c4792b0, c4792b1, Bool.not_true, Bool.not_false]
                                                refine pure_ (i := 17) (N := some 202) (v := undef) (a' := ?_) #[true, true, true, true, true, true, true, true, true, true, true, true, true, true, true, true, true, true, false, false, false, false, false, false, false, false, false, false, false, false, false, false, false, false] rfl rfl (by kernel_rfl) (fun _ _ _ h => h) (Or.inr ⟨by rfl, rfl⟩) ?_ ?_
                                                rotate_left
                                                · simp only [Act.put, List.setIfInBounds_toArray, List.set_cons_zero, List.set_cons_succ, i64_w, i32_w]
                                                  rfl
                                                try simp only [c4792b0, c4792b1, Bool.not_true, Bool.not_false]
                                                refine pure_ (i := 18) (N := some 203) (v := undef) (a' := ?_) #[true, true, true, true, true, true, true, true, true, true, true, true, true, true, true, true, true, true, true, false, false, false, false, false, false, false, false, false, false, false, false, false, false, false] rfl rfl (by kernel_rfl) (fun _ _ _ h => h) (Or.inr ⟨by rfl, rfl⟩) ?_ ?_
                                                rotate_left
                                                · simp only [Act.put, List.setIfInBounds_toArray, List.set_cons_zero, List.set_cons_succ, i64_w, i32_w]
                                                  rfl
                                                try simp only [c4792b0, c4792b1, Bool.not_true, Bool.not_false]
                                                refine pure_ (i := 19) (N := some 204) (v := undef) (a' := ?_) #[true, true, true, true, true, true, true, true, true, true, true, true, true, true, true, true, true, true, true, true, false, false, false, false, false, false, false, false, false, false, false, false, false, false] rfl rfl (by kernel_rfl) (fun _ _ _ h => h) (Or.inr ⟨by rfl, rfl⟩) ?_ ?_
                                                rotate_left
                                                · simp only [Act.put, List.setIfInBounds_toArray, List.set_cons_zero, List.set_cons_succ, i64_w, i32_w]
                                                  rfl
                                                try simp only [c4792b0, c4792b1, Bool.not_true, Bool.not_false]
                                                refine pure_ (i := 20) (N := some 205) (v := undef) (a' := ?_) #[true, true, true, true, true, true, true, true, true, true, true, true, true, true, true, true, true, true, true, true, true, false, false, false, false, false, false, false, false, false, false, false, false, false] rfl rfl (by kernel_rfl) (fun _ _ _ h => h) (Or.inr ⟨by rfl, rfl⟩) ?_ ?_
                                                rotate_left
                                                · simp only [Act.put, List.setIfInBounds_toArray, List.set_cons_zero, List.set_cons_succ, i64_w, i32_w]
                                                  rfl
                                                try simp only [c4792b0, c4792b1, Bool.not_true, Bool.not_false]
                                                refine pure_ (i := 21) (N := some 206) (v := undef) (a' := ?_) #[true, true, true, true, true, true, true, true, true, true, true, true, true, true, true, true, true, true, true, true, true, true, false, false, false, false, false, false, false, false, false, false, false, false] rfl rfl (by kernel_rfl) (fun _ _ _ h => h) (Or.inr ⟨by rfl, rfl⟩) ?_ ?_
                                                rotate_left
                                                · simp only [Act.put, List.setIfInBounds_toArray, List.set_cons_zero, List.set_cons_succ, i64_w, i32_w]
                                                  rfl
                                                refine pure_ (i := 22) (N := some 207) (v := ?_) (a' := ?_) #[true, true, true, true, true, true, true, true, true, true, true, true, true, true, true, true, true, true, true, true, true, true, true, false, false, false, false, false, false, false, false, false, false, false] rfl rfl (by kernel_rfl) (fun _ _ _ h => h) (Or.inl ⟨by rfl, ?_⟩) ?_ ?_
                                                rotate_left
                                                · intro w'
                                                  go_simp
                                                  with_reducible rfl
                                                rotate_left
                                                · simp only [Act.put, List.setIfInBounds_toArray, List.set_cons_zero, List.set_cons_succ, i64_w, i32_w]
                                                  rfl
                                                refine pure_ (i := 23) (N := some 208) (v := ?_) (a' := ?_) #[true, true, true, true, true, true, true, true, true, true, true, true, true, true, true, true, true, true, true, true, true, true, true, true, false, false, false, false, false, false, false, false, false, false] rfl rfl (by kernel_rfl) (fun _ _ _ h => h) (Or.inl ⟨by rfl, ?_⟩) ?_ ?_
                                                rotate_left
                                                · intro w'
                                                  go_simp
                                                  with_reducible rfl
                                                rotate_left
                                                · simp only [Act.put, List.setIfInBounds_toArray, List.set_cons_zero, List.set_cons_succ, i64_w, i32_w]
                                                  rfl
                                                refine pure_ (i := 24) (N := some 209) (v := undef) (a' := ?_) #[true, true, true, true, true, true, true, true, true, true, true, true, true, true, true, true, true, true, true, true, true, true, true, true, true, false, false, false, false, false, false, false, false, false] rfl rfl (by kernel_rfl) (fun _ _ _ h => h) (Or.inr ⟨by rfl, rfl⟩) ?_ ?_
                                                rotate_left
                                                · simp only [Act.put, List.setIfInBounds_toArray, List.set_cons_zero, List.set_cons_succ, i64_w, i32_w]
                                                  rfl
                                                refine pure_ (i := 25) (N := some 210) (v := undef) (a' := ?_) #[true, true, true, true, true, true, true, true, true, true, true, true, true, true, true, true, true, true, true, true, true, true, true, true, true, true, false, false, false, false, false, false, false, false] rfl rfl (by kernel_rfl) (fun _ _ _ h => h) (Or.inr ⟨by rfl, rfl⟩) ?_ ?_
                                                rotate_left
                                                · simp only [Act.put, List.setIfInBounds_toArray, List.set_cons_zero, List.set_cons_succ, i64_w, i32_w]
                                                  rfl
                                                refine pure_ (i := 26) (N := some 211) (v := undef) (a' := ?_) #[true, true, true, true, true, true, true, true, true, true, true, true, true, true, true, true, true, true, true, true, true, true, true, true, true, true, true, false, false, false, false, false, false, false] rfl rfl (by kernel_rfl) (fun _ _ _ h => h) (Or.inr ⟨by rfl, rfl⟩) ?_ ?_
                                                rotate_left
                                                · simp only [Act.put, List.setIfInBounds_toArray, List.set_cons_zero, List.set_cons_succ, i64_w, i32_w]
                                                  rfl
                                                refine pure_ (i := 27) (N := some 212) (v := undef) (a' := ?_) #[true, true, true, true, true, true, true, true, true, true, true, true, true, true, true, true, true, true, true, true, true, true, true, true, true, true, true, true, false, false, false, false, false, false] rfl rfl (by kernel_rfl) (fun _ _ _ h => h) (Or.inr ⟨by rfl, rfl⟩) ?_ ?_
                                                rotate_left
                                                · simp only [Act.put, List.setIfInBounds_toArray, List.set_cons_zero, List.set_cons_succ, i64_w, i32_w]
                                                  rfl
                                                refine pure_ (i := 28) (N := some 213) (v := undef) (a' := ?_) #[true, true, true, true, true, true, true, true, true, true, true, true, true, true, true, true, true, true, true, true, true, true, true, true, true, true, true, true, true, false, false, false, false, false] rfl rfl (by kernel_rfl) (fun _ _ _ h => h) (Or.inr ⟨by rfl, rfl⟩) ?_ ?_
                                                rotate_left
                                                · simp only [Act.put, List.setIfInBounds_toArray, List.set_cons_zero, List.set_cons_succ, i64_w, i32_w]
                                                  rfl
                                                refine pure_ (i := 29) (N := some 214) (v := undef) (a' := ?_) #[true, true, true, true, true, true, true, true, true, true, true, true, true, true, true, true, true, true, true, true, true, true, true, true, true, true, true, true, true, true, false, false, false, false] rfl rfl (by kernel_rfl) (fun _ _ _ h => h) (Or.inr ⟨by rfl, rfl⟩) ?_ ?_
                                                rotate_left
                                                · simp only [Act.put, List.setIfInBounds_toArray, List.set_cons_zero, List.set_cons_succ, i64_w, i32_w]
                                                  rfl
                                                refine pure_ (i := 30) (N := some 215) (v := undef) (a' := ?_) #[true, true, true, true, true, true, true, true, true, true, true, true, true, true, true, true, true, true, true, true, true, true, true, true, true, true, true, true, true, true, true, false, false, false] rfl rfl (by kernel_rfl) (fun _ _ _ h => h) (Or.inr ⟨by rfl, rfl⟩) ?_ ?_
                                                rotate_left
                                                · simp only [Act.put, List.setIfInBounds_toArray, List.set_cons_zero, List.set_cons_succ, i64_w, i32_w]
                                                  rfl
                                                refine pure_ (i := 31) (N := some 216) (v := undef) (a' := ?_) #[true, true, true, true, true, true, true, true, true, true, true, true, true, true, true, true, true, true, true, true, true, true, true, true, true, true, true, true, true, true, true, true, false, false] rfl rfl (by kernel_rfl) (fun _ _ _ h => h) (Or.inr ⟨by rfl, rfl⟩) ?_ ?_
                                                rotate_left
                                                · simp only [Act.put, List.setIfInBounds_toArray, List.set_cons_zero, List.set_cons_succ, i64_w, i32_w]
                                                  rfl
                                                refine pure_ (i := 32) (N := some 217) (v := undef) (a' := ?_) #[true, true, true, true, true, true, true, true, true, true, true, true, true, true, true, true, true, true, true, true, true, true, true, true, true, true, true, true, true, true, true, true, true, false] rfl rfl (by kernel_rfl) (fun _ _ _ h => h) (Or.inr ⟨by rfl, rfl⟩) ?_ ?_
                                                rotate_left
                                                · simp only [Act.put, List.setIfInBounds_toArray, List.set_cons_zero, List.set_cons_succ, i64_w, i32_w]
                                                  rfl
                                                refine pure_ (i := 33) (N := some 218) (v := ?_) (a' := ?_) #[true, true, true, true, true, true, true, true, true, true, true, true, true, true, true, true, true, true, true, true, true, true, true, true, true, true, true, true, true, true, true, true, true, true] rfl rfl (by kernel_rfl) (fun _ _ _ h => h) (Or.inl ⟨by rfl, ?_⟩) ?_ ?_
                                                rotate_left
                                                · intro w'
                                                  go_simp
                                                  with_reducible rfl
                                                rotate_left
                                                · simp only [Act.put, List.setIfInBounds_toArray, List.set_cons_zero, List.set_cons_succ, i64_w, i32_w]
                                                  rfl
                                                refine done_ (by kernel_rfl) ?_
                                                replace HS : Aside0 (Sep (fps []) w [b7 g3123 g3124 t3116.1 t3116.2.1 t3116.2.2.1 t3116.2.2.2.1, b6 g3124 A3125 ((t3116.2.2.2.2).length) n3127 t4607.2, r5 A3125 ((t3116.2.2.2.2).length) n3127 x4459, r20 A3704 x3703.length n3706 x3703, r16 (some ⟨g4759, 0, none⟩) x3650.length n3653 x3650, r16 (some ⟨g4186, 0, none⟩) m4182 m4182 x4460] w4791) := ⟨HS.out.sub (.cons_cons _ (.cons_cons _ (.cons_cons _ (.cons _ (.cons _ (.cons_cons _ (.cons_cons _ (.cons_cons _ (.cons _ .slnil)))))))))⟩
                                                go_wp2_with fail
                                                have ho := some_eq AL4751
                                                subst ho
                                                have H := lp_ret H
                                                go_ret
                                                rw [← some_eq H]
                                                exact ⟨(by first | rfl | (simp [IntKind.wrap_u32]; done)), HS.out.sub (.cons _ (.cons _ (.cons _ (.cons _ (.cons _ (.cons _ .slnil))))))⟩
                                            · replace AL4751 := if_no c4789 AL4751
                                              have c4789b0 : decide (x4754 < (m4182 : Int)) = false := decide_eq_false c4789
                                              clear c4789
                                              exact (none_no AL4751).elim
                                          · replace AL4751 := if_no c4788 AL4751
                                            have c4788b0 : t4548.1 = false := by simpa using c4788
                                            have c4788b1 : (!t4548.1) = true := by rw [c4788b0]; rfl
                                            try rw [c4788b1]
                                            clear c4788
                                            try simp only [c4788b0, Bool.not_true, Bool.not_false]
                                            refine pure_ (i := 3) (N := some 188) (v := undef) (a' := ?_) #[true, true, true, true, false, false, false, false, false, false, false, false, false, false, false, false, false, false, false, false, false, false, false, false, false, false, false, false, false, false, false, false, false, false] rfl rfl (by kernel_rfl) (fun _ _ _ h => h) (Or.inr ⟨by rfl, rfl⟩) ?_ ?_
                                            rotate_left
                                            · simp only [Act.put, List.setIfInBounds_toArray, List.set_cons_zero, List.set_cons_succ, i64_w, i32_w]
                                              rfl
                                            try simp only [c4788b0, Bool.not_true, Bool.not_false]
                                            refine pure_ (i := 4) (N := some 189) (v := undef) (a' := ?_) #[true, true, true, true, true, false, false, false, false, false, false, false, false, false, false, false, false, false, false, false, false, false, false, false, false, false, false, false, false, false, false, false, false, false] rfl rfl (by kernel_rfl) (fun _ _ _ h => h) (Or.inr ⟨by rfl, rfl⟩) ?_ ?_
                                            rotate_left
                                            · simp only [Act.put, List.setIfInBounds_toArray, List.set_cons_zero, List.set_cons_succ, i64_w, i32_w]
                                              rfl
                                            try simp only [c4788b0, Bool.not_true, Bool.not_false]
                                            refine pure_ (i := 5) (N := some 190) (v := undef) (a' := ?_) #[true, true, true, true, true, true, false, false, false, false, false, false, false, false, false, false, false, false, false, false, false, false, false, false, false, false, false, false, false, false, false, false, false, false] rfl rfl (by kernel_rfl) (fun _ _ _ h => h) (Or.inr ⟨by rfl, rfl⟩) ?_ ?_
                                            rotate_left
                                            · simp only [Act.put, List.setIfInBounds_toArray, List.set_cons_zero, List.set_cons_succ, i64_w, i32_w]
                                              rfl
                                            try simp only [c4788b0, Bool.not_true, Bool.not_false]
                                            refine pure_ (i := 6) (N := some 191) (v := undef) (a' := ?_) #[true, true, true, true, true, true, true, false, false, false, false, false, false, false, false, false, false, false, false, false, false, false, false, false, false, false, false, false, false, false, false, false, false, false] rfl rfl (by kernel_rfl) (fun _ _ _ h => h) (Or.inr ⟨by rfl, rfl⟩) ?_ ?_
                                            rotate_left
                                            · simp only [Act.put, List.setIfInBounds_toArray, List.set_cons_zero, List.set_cons_succ, i64_w, i32_w]
                                              rfl
                                            try simp only [c4788b0, Bool.not_true, Bool.not_false]
                                            refine pure_ (i := 7) (N := some 192) (v := undef) (a' := ?_) #[true, true, true, true, true, true, true, true, false, false, false, false, false, false, false, false, false, false, false, false, false, false, false, false, false, false, false, false, false, false, false, false, false, false] rfl rfl (by kernel_rfl) (fun _ _ _ h => h) (Or.inr ⟨by rfl, rfl⟩) ?_ ?_
                                            rotate_left
                                            · simp only [Act.put, List.setIfInBounds_toArray, List.set_cons_zero, List.set_cons_succ, i64_w, i32_w]
                                              rfl
                                            try simp only [c4788b0, Bool.not_true, Bool.not_false]
                                            refine pure_ (i := 8) (N := some 193) (v := undef) (a' := ?_) #[true, true, true, true, true, true, true, true, true, false, false, false, false, false, false, false, false, false, false, false, false, false, false, false, false, false, false, false, false, false, false, false, false, false] rfl rfl (by kernel_rfl) (fun _ _ _ h => h) (Or.inr ⟨by rfl, rfl⟩) ?_ ?_
                                            rotate_left
                                            · simp only [Act.put, List.setIfInBounds_toArray, List.set_cons_zero, List.set_cons_succ, i64_w, i32_w]
                                              rfl
                                            try simp only [c4788b0, Bool.not_true, Bool.not_false]
                                            refine pure_ (i := 9) (N := some 194) (v := undef) (a' := ?_) #[true, true, true, true, true, true, true, true, true, true, false, false, false, false, false, false, false, false, false, false, false, false, false, false, false, false, false, false, false, false, false, false, false, false] rfl rfl (by kernel_rfl) (fun _ _ _ h => h) (Or.inr ⟨by rfl, rfl⟩) ?_ ?_
                                            rotate_left
                                            · simp only [Act.put, List.setIfInBounds_toArray, List.set_cons_zero, List.set_cons_succ, i64_w, i32_w]
                                              rfl
                                            try simp only [c4788b0, Bool.not_true, Bool.not_false]
                                            refine pure_ (i := 10) (N := some 195) (v := undef) (a' := ?_) #[true, true, true, true, true, true, true, true, true, true, true, false, false, false, false, false, false, false, false, false, false, false, false, false, false, false, false, false, false, false, false, false, false, false] rfl rfl (by kernel_rfl) (fun _ _ _ h => h) (Or.inr ⟨by rfl, rfl⟩) ?_ ?_
                                            rotate_left
                                            · simp only [Act.put, List.setIfInBounds_toArray, List.set_cons_zero, List.set_cons_succ, i64_w, i32_w]
                                              rfl
                                            refine pure_ (i := 11) (N := some 196) (v := ?_) (a' := ?_) #[true, true, true, true, true, true, true, true, true, true, true, true, false, false, false, false, false, false, false, false, false, false, false, false, false, false, false, false, false, false, false, false, false, false] rfl rfl (by kernel_rfl) (fun _ _ _ h => h) (Or.inl ⟨by rfl, ?_⟩) ?_ ?_
                                            rotate_left
                                            · intro w'
                                              go_simp
                                              with_reducible rfl
                                            rotate_left
                                            · simp only [Act.put, List.setIfInBounds_toArray, List.set_cons_zero, List.set_cons_succ, i64_w, i32_w]
                                              rfl
                                            refine pure_ (i := 12) (N := some 197) (v := ?_) (a' := ?_) #[true, true, true, true, true, true, true, true, true, true, true, true, true, false, false, false, false, false, false, false, false, false, false, false, false, false, false, false, false, false, false, false, false, false] rfl rfl (by kernel_rfl) (fun _ _ _ h => h) (Or.inl ⟨by rfl, ?_⟩) ?_ ?_
                                            rotate_left
                                            · intro w'
                                              go_simp
                                              with_reducible rfl
                                            rotate_left
                                            · simp only [Act.put, List.setIfInBounds_toArray, List.set_cons_zero, List.set_cons_succ, i64_w, i32_w]
                                              rfl
                                            refine pure_ (i := 13) (N := some 198) (v := undef) (a' := ?_) #[true, true, true, true, true, true, true, true, true, true, true, true, true, true, false, false, false, false, false, false, false, false, false, false, false, false, false, false, false, false, false, false, false, false] rfl rfl (by kernel_rfl) (fun _ _ _ h => h) (Or.inr ⟨by rfl, rfl⟩) ?_ ?_
                                            rotate_left
                                            · simp only [Act.put, List.setIfInBounds_toArray, List.set_cons_zero, List.set_cons_succ, i64_w, i32_w]
                                              rfl
                                            refine pure_ (i := 14) (N := some 199) (v := undef) (a' := ?_) #[true, true, true, true, true, true, true, true, true, true, true, true, true, true, true, false, false, false, false, false, false, false, false, false, false, false, false, false, false, false, false, false, false, false] rfl rfl (by kernel_rfl) (fun _ _ _ h => h) (Or.inr ⟨by rfl, rfl⟩) ?_ ?_
                                            rotate_left
                                            · simp only [Act.put, List.setIfInBounds_toArray, List.set_cons_zero, List.set_cons_succ, i64_w, i32_w]
                                              rfl
                                            refine pure_ (i := 15) (N := some 200) (v := undef) (a' := ?_) #[true, true, true, true, true, true, true, true, true, true, true, true, true, true, true, true, false, false, false, false, false, false, false, false, false, false, false, false, false, false, false, false, false, false] rfl rfl (by kernel_rfl) (fun _ _ _ h => h) (Or.inr ⟨by rfl, rfl⟩) ?_ ?_
                                            rotate_left
                                            · simp only [Act.put, List.setIfInBounds_toArray, List.set_cons_zero, List.set_cons_succ, i64_w, i32_w]
                                              rfl
                                            refine pure_ (i := 16) (N := some 201) (v := undef) (a' := ?_) #[true, true, true, true, true, true, true, true, true, true, true, true, true, true, true, true, true, false, false, false, false, false, false, false, false, false, false, false, false, false, false, false, false, false] rfl rfl (by kernel_rfl) (fun _ _ _ h => h) (Or.inr ⟨by rfl, rfl⟩) ?_ ?_
                                            rotate_left
                                            · simp only [Act.put, List.setIfInBounds_toArray, List.set_cons_zero, List.set_cons_succ, i64_w, i32_w]
                                              rfl
                                            refine pure_ (i := 17) (N := some 202) (v := undef) (a' := ?_) #[true, true, true, true, true, true, true, true, true, true, true, true, true, true, true, true, true, true, false, false, false, false, false, false, false, false, false, false, false, false, false, false, false, false] rfl rfl (by kernel_rfl) (fun _ _ _ h => h) (Or.inr ⟨by rfl, rfl⟩) ?_ ?_
                                            rotate_left
                                            · simp only [Act.put, List.setIfInBounds_toArray, List.set_cons_zero, List.set_cons_succ, i64_w, i32_w]
                                              rfl
                                            refine pure_ (i := 18) (N := some 203) (v := undef) (a' := ?_) #[true, true, true, true, true, true, true, true, true, true, true, true, true, true, true, true, true, true, true, false, false, false, false, false, false, false, false, false, false, false, false, false, false, false] rfl rfl (by kernel_rfl) (fun _ _ _ h => h) (Or.inr ⟨by rfl, rfl⟩) ?_ ?_
                                            rotate_left
                                            · simp only [Act.put, List.setIfInBounds_toArray, List.set_cons_zero, List.set_cons_succ, i64_w, i32_w]
                                              rfl
                                            refine pure_ (i := 19) (N := some 204) (v := undef) (a' := ?_) #[true, true, true, true, true, true, true, true, true, true, true, true, true, true, true, true, true, true, true, true, false, false, false, false, false, false, false, false, false, false, false, false, false, false] rfl rfl (by kernel_rfl) (fun _ _ _ h => h) (Or.inr ⟨by rfl, rfl⟩) ?_ ?_
                                            rotate_left
                                            · simp only [Act.put, List.setIfInBounds_toArray, List.set_cons_zero, List.set_cons_succ, i64_w, i32_w]
                                              rfl
                                            refine pure_ (i := 20) (N := some 205) (v := undef) (a' := ?_) #[true, true, true, true, true, true, true, true, true, true, true, true, true, true, true, true, true, true, true, true, true, false, false, false, false, false, false, false, false, false, false, false, false, false] rfl rfl (by kernel_rfl) (fun _ _ _ h => h) (Or.inr ⟨by rfl, rfl⟩) ?_ ?_
                                            rotate_left
                                            · simp only [Act.put, List.setIfInBounds_toArray, List.set_cons_zero, List.set_cons_succ, i64_w, i32_w]
                                              rfl
                                            refine pure_ (i := 21) (N := some 206) (v := undef) (a' := ?_) #[true, true, true, true, true, true, true, true, true, true, true, true, true, true, true, true, true, true, true, true, true, true, false, false, false, false, false, false, false, false, false, false, false, false] rfl rfl (by kernel_rfl) (fun _ _ _ h => h) (Or.inr ⟨by rfl, rfl⟩) ?_ ?_
                                            rotate_left
                                            · simp only [Act.put, List.setIfInBounds_toArray, List.set_cons_zero, List.set_cons_succ, i64_w, i32_w]
                                              rfl
                                            refine pure_ (i := 22) (N := some 207) (v := ?_) (a' := ?_) #[true, true, true, true, true, true, true, true, true, true, true, true, true, true, true, true, true, true, true, true, true, true, true, false, false, false, false, false, false, false, false, false, false, false] rfl rfl (by kernel_rfl) (fun _ _ _ h => h) (Or.inl ⟨by rfl, ?_⟩) ?_ ?_
                                            rotate_left
                                            · intro w'
                                              go_simp
                                              with_reducible rfl
                                            rotate_left
                                            · simp only [Act.put, List.setIfInBounds_toArray, List.set_cons_zero, List.set_cons_succ, i64_w, i32_w]
                                              rfl
                                            refine pure_ (i := 23) (N := some 208) (v := ?_) (a' := ?_) #[true, true, true, true, true, true, true, true, true, true, true, true, true, true, true, true, true, true, true, true, true, true, true, true, false, false, false, false, false, false, false, false, false, false] rfl rfl (by kernel_rfl) (fun _ _ _ h => h) (Or.inl ⟨by rfl, ?_⟩) ?_ ?_
                                            rotate_left
                                            · intro w'
                                              go_simp
                                              with_reducible rfl
                                            rotate_left
                                            · simp only [Act.put, List.setIfInBounds_toArray, List.set_cons_zero, List.set_cons_succ, i64_w, i32_w]
                                              rfl
                                            refine pure_ (i := 24) (N := some 209) (v := undef) (a' := ?_) #[true, true, true, true, true, true, true, true, true, true, true, true, true, true, true, true, true, true, true, true, true, true, true, true, true, false, false, false, false, false, false, false, false, false] rfl rfl (by kernel_rfl) (fun _ _ _ h => h) (Or.inr ⟨by rfl, rfl⟩) ?_ ?_
                                            rotate_left
                                            · simp only [Act.put, List.setIfInBounds_toArray, List.set_cons_zero, List.set_cons_succ, i64_w, i32_w]
                                              rfl
                                            refine pure_ (i := 25) (N := some 210) (v := undef) (a' := ?_) #[true, true, true, true, true, true, true, true, true, true, true, true, true, true, true, true, true, true, true, true, true, true, true, true, true, true, false, false, false, false, false, false, false, false] rfl rfl (by kernel_rfl) (fun _ _ _ h => h) (Or.inr ⟨by rfl, rfl⟩) ?_ ?_
                                            rotate_left
                                            · simp only [Act.put, List.setIfInBounds_toArray, List.set_cons_zero, List.set_cons_succ, i64_w, i32_w]
                                              rfl
                                            refine pure_ (i := 26) (N := some 211) (v := undef) (a' := ?_) #[true, true, true, true, true, true, true, true, true, true, true, true, true, true, true, true, true, true, true, true, true, true, true, true, true, true, true, false, false, false, false, false, false, false] rfl rfl (by kernel_rfl) (fun _ _ _ h => h) (Or.inr ⟨by rfl, rfl⟩) ?_ ?_
                                            rotate_left
                                            · simp only [Act.put, List.setIfInBounds_toArray, List.set_cons_zero, List.set_cons_succ, i64_w, i32_w]
                                              rfl
                                            refine pure_ (i := 27) (N := some 212) (v := undef) (a' := ?_) #[true, true, true, true, true, true, true, true, true, true, true, true, true, true, true, true, true, true, true, true, true, true, true, true, true, true, true, true, false, false, false, false, false, false] rfl rfl (by kernel_rfl) (fun _ _ _ h => h) (Or.inr ⟨by rfl, rfl⟩) ?_ ?_
                                            rotate_left
                                            · simp only [Act.put, List.setIfInBounds_toArray, List.set_cons_zero, List.set_cons_succ, i64_w, i32_w]
                                              rfl
                                            refine pure_ (i := 28) (N := some 213) (v := undef) (a' := ?_) #[true, true, true, true, true, true, true, true, true, true, true, true, true, true, true, true, true, true, true, true, true, true, true, true, true, true, true, true, true, false, false, false, false, false] rfl rfl (by kernel_rfl) (fun _ _ _ h => h) (Or.inr ⟨by rfl, rfl⟩) ?_ ?_
                                            rotate_left
                                            · simp only [Act.put, List.setIfInBounds_toArray, List.set_cons_zero, List.set_cons_succ, i64_w, i32_w]
                                              rfl
                                            refine pure_ (i := 29) (N := some 214) (v := undef) (a' := ?_) #[true, true, true, true, true, true, true, true, true, true, true, true, true, true, true, true, true, true, true, true, true, true, true, true, true, true, true, true, true, true, false, false, false, false] rfl rfl (by kernel_rfl) (fun _ _ _ h => h) (Or.inr ⟨by rfl, rfl⟩) ?_ ?_
                                            rotate_left
                                            · simp only [Act.put, List.setIfInBounds_toArray, List.set_cons_zero, List.set_cons_succ, i64_w, i32_w]
                                              rfl
                                            refine pure_ (i := 30) (N := some 215) (v := undef) (a' := ?_) #[true, true, true, true, true, true, true, true, true, true, true, true, true, true, true, true, true, true, true, true, true, true, true, true, true, true, true, true, true, true, true, false, false, false] rfl rfl (by kernel_rfl) (fun _ _ _ h => h) (Or.inr ⟨by rfl, rfl⟩) ?_ ?_
                                            rotate_left
                                            · simp only [Act.put, List.setIfInBounds_toArray, List.set_cons_zero, List.set_cons_succ, i64_w, i32_w]
                                              rfl
                                            refine pure_ (i := 31) (N := some 216) (v := undef) (a' := ?_) #[true, true, true, true, true, true, true, true, true, true, true, true, true, true, true, true, true, true, true, true, true, true, true, true, true, true, true, true, true, true, true, true, false, false] rfl rfl (by kernel_rfl) (fun _ _ _ h => h) (Or.inr ⟨by rfl, rfl⟩) ?_ ?_
                                            rotate_left
                                            · simp only [Act.put, List.setIfInBounds_toArray, List.set_cons_zero, List.set_cons_succ, i64_w, i32_w]
                                              rfl
                                            refine pure_ (i := 32) (N := some 217) (v := undef) (a' := ?_) #[true, true, true, true, true, true, true, true, true, true, true, true, true, true, true, true, true, true, true, true, true, true, true, true, true, true, true, true, true, true, true, true, true, false] rfl rfl (by kernel_rfl) (fun _ _ _ h => h) (Or.inr ⟨by rfl, rfl⟩) ?_ ?_
                                            rotate_left
                                            · simp only [Act.put, List.setIfInBounds_toArray, List.set_cons_zero, List.set_cons_succ, i64_w, i32_w]
                                              rfl
                                            refine pure_ (i := 33) (N := some 218) (v := ?_) (a' := ?_) #[true, true, true, true, true, true, true, true, true, true, true, true, true, true, true, true, true, true, true, true, true, true, true, true, true, true, true, true, true, true, true, true, true, true] rfl rfl (by kernel_rfl) (fun _ _ _ h => h) (Or.inl ⟨by rfl, ?_⟩) ?_ ?_
                                            rotate_left
                                            · intro w'
                                              go_simp
                                              with_reducible rfl
                                            rotate_left
                                            · simp only [Act.put, List.setIfInBounds_toArray, List.set_cons_zero, List.set_cons_succ, i64_w, i32_w]
                                              rfl
                                            refine done_ (by kernel_rfl) ?_
                                            replace HS : Aside0 (Sep (fps []) w [b7 g3123 g3124 t3116.1 t3116.2.1 t3116.2.2.1 t3116.2.2.2.1, b6 g3124 A3125 ((t3116.2.2.2.2).length) n3127 x4755, r5 A3125 ((t3116.2.2.2.2).length) n3127 x4459, r20 A3704 x3703.length n3706 x3703, r16 (some ⟨g4759, 0, none⟩) x3650.length n3653 x3650, r16 (some ⟨g4186, 0, none⟩) m4182 m4182 x4460] w4787) := ⟨HS.out.sub (.cons_cons _ (.cons_cons _ (.cons_cons _ (.cons _ (.cons _ (.cons_cons _ (.cons_cons _ (.cons_cons _ (.cons _ .slnil)))))))))⟩
                                            go_wp2_with fail
                                            have ho := some_eq AL4751
                                            subst ho
                                            have H := lp_ret H
                                            go_ret
                                            rw [← some_eq H]
                                            exact ⟨(by first | rfl | (simp [IntKind.wrap_u32]; done)), HS.out.sub (.cons _ (.cons _ (.cons _ (.cons _ (.cons _ (.cons _ .slnil))))))⟩
                                        · replace AL4751 := if_no c4757 AL4751
                                          have c4757b0 : decide (0 ≤ x4754) = false := decide_eq_false c4757
                                          clear c4757
                                          exact (none_no AL4751).elim
                                      · replace AL4751 := if_no c4756 AL4751
                                        have c4756b0 : decide (x4754 < (x3650.length : Int)) = false := decide_eq_false c4756
                                        clear c4756
                                        have ho := some_eq AL4751
                                        subst ho
                                        clear AL4751
                                        have H := lp_out H
                                        go_wp2_with fail
                                        replace HS : Aside0 (Sep (fps []) w [r5 A3125 ((t3116.2.2.2.2).length) n3127 x4459, r20 A3704 x3703.length n3706 x3703, r16 A3651 x3650.length n3653 x3650, b7 g3123 g3124 t3116.1 t3116.2.1 t3116.2.2.1 t3116.2.2.2.1, b6 g3124 A3125 ((t3116.2.2.2.2).length) n3127 x4755, r16 (some ⟨g4186, 0, none⟩) m4182 m4182 x4460] w4752) := ⟨HS.out.front 4 (by simp)⟩
                                        replace HS : Aside0 (Sep (fps []) w [b6 g3124 A3125 ((t3116.2.2.2.2).length) n3127 x4755, r5 A3125 ((t3116.2.2.2.2).length) n3127 x4459, r20 A3704 x3703.length n3706 x3703, r16 A3651 x3650.length n3653 x3650, b7 g3123 g3124 t3116.1 t3116.2.1 t3116.2.2.1 t3116.2.2.2.1, r16 (some ⟨g4186, 0, none⟩) m4182 m4182 x4460] w4752) := ⟨HS.out.front 4 (by simp)⟩
                                        replace HS : Aside0 (Sep (fps []) w [b7 g3123 g3124 t3116.1 t3116.2.1 t3116.2.2.1 t3116.2.2.2.1, b6 g3124 A3125 ((t3116.2.2.2.2).length) n3127 x4755, r5 A3125 ((t3116.2.2.2.2).length) n3127 x4459, r20 A3704 x3703.length n3706 x3703, r16 A3651 x3650.length n3653 x3650, r16 (some ⟨g4186, 0, none⟩) m4182 m4182 x4460] w4752) := ⟨HS.out.front 4 (by simp)⟩
                                        obtain ⟨t4801, HA4802, H⟩ := bind_some H
                                        refine (pool_Len.calls x4459 x4755 t3116.1 t3116.2.1 t3116.2.2.1 t3116.2.2.2.1 g3123 g3124 A3125 ((t3116.2.2.2.2).length) n3127 t4801 _ ⟨HGl0.out.pass HS.out⟩ ⟨HS.out.begin⟩ HA4802).mono ?_
                                        rintro e_ w4803 ⟨rfl, hS⟩
                                        replace HS : Aside0 (Sep (fps []) w [b7 g3123 g3124 t3116.1 t3116.2.1 t3116.2.2.1 t3116.2.2.2.1, b6 g3124 A3125 ((t3116.2.2.2.2).length) n3127 t4801.2, r5 A3125 ((t3116.2.2.2.2).length) n3127 x4459, r20 A3704 x3703.length n3706 x3703, r16 A3651 x3650.length n3653 x3650, r16 (some ⟨g4186, 0, none⟩) m4182 m4182 x4460] w4803) := ⟨HS.out.call hS⟩
                                        clear hS
                                        replace HS : Aside0 (Sep (fps []) w [] w4803) := ⟨HS.out.sub (.cons _ (.cons _ (.cons _ (.cons _ (.cons _ (.cons _ .slnil))))))⟩
                                        go_wp2_with fail
                                        go_ret
                                        rw [← some_eq H]
                                        exact ⟨(by first | rfl | (simp [IntKind.wrap_u32]; done)), HS.out⟩
            · replace H := if_no c3132 H
              have c3132b0 : t3129.1 = false := by simpa using c3132
              have c3132b1 : (!t3129.1) = true := by rw [c3132b0]; rfl
              try rw [c3132b1]
              clear c3132
              replace HS : Aside0 (Sep (fps []) w [] w3131) := ⟨HS.out.sub (.cons _ (.cons _ (.cons _ .slnil)))⟩
              go_wp2_with fail
              go_ret
              rw [← some_eq H]
              exact ⟨(by first | rfl | (simp [IntKind.wrap_u32]; done)), HS.out⟩
          · have H := sum_r H
            have H := sum_r H
            refine (ground_New.calls _ 60 16 1 1 (.inr (.inr t3117)) _ ⟨HGl0.out.pass (l := []) HS.out⟩ ⟨Sep.start _⟩ HA3114).mono ?_
            rintro e_ w5559 ⟨rfl, hS⟩
            replace HS : Aside0 (Sep (fps []) w [] w5559) := ⟨HS.out.call hS⟩
            clear hS
            by_cases c5560 : t3117 = 0
            · replace H := if_yes c5560 H
              have c5560b0 : (t3117 == 0) = true := beq_iff_eq.mpr c5560
              have c5560b1 : (t3117 != 0) = false := bne_eq_false_iff_eq.mpr c5560
              clear c5560
              exact (none_no H).elim
            · replace H := if_no c5560 H
              have c5560b0 : (t3117 == 0) = false := beq_eq_false_iff_ne.mpr c5560
              have c5560b1 : (t3117 != 0) = true := bne_iff_ne.mpr c5560
              clear c5560
              go_wp2_with fail
              go_ret
              rw [← some_eq H]
              exact ⟨(by first | rfl | (simp [IntKind.wrap_u32]; done)), HS.out⟩
  · replace H := if_no c3102 H
    have c3102b0 : t3099 = false := by simpa using c3102
    have c3102b1 : (!t3099) = true := by rw [c3102b0]; rfl
    try rw [c3102b1]
    clear c3102
    go_wp2_with fail
    obtain ⟨t3104, HA5561, H⟩ := bind_some H
    refine (quitrenttop_awakeRow.calls _ t3104 _ ⟨HGl0.out.pass (l := []) HS.out⟩ ⟨Sep.start _⟩ HA5561).mono ?_
    rintro e_ w5562 ⟨rfl, hS⟩
    replace HS : Aside0 (Sep (fps []) w [] w5562) := ⟨HS.out.call hS⟩
    clear hS
    go_wp2_with fail
    go_ret
    rw [← some_eq H]
    exact ⟨(by first | rfl | (simp [IntKind.wrap_u32]; done)), HS.out⟩
end Go.Proofs.YtobeonkddamnoaaDoor.C

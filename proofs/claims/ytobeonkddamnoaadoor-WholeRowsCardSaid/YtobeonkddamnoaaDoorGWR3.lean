/- Each function of the group WR does what its plain function says, and changes nothing that was there; proved by walking its code. No condition. -/
import Derived.Test.YtobeonkddamnoaaDoorQw
import Derived.Test.YtobeonkddamnoaaDoorMWR
import Derived.Test.YtobeonkddamnoaaDoorGWR0
import Derived.Test.YtobeonkddamnoaaDoorGWR1
import Derived.Test.YtobeonkddamnoaaDoorGWR2
namespace Go.Proofs.YtobeonkddamnoaaDoor.C
open Go.RowKit Go.Proofs.YtobeonkddamnoaaDoorW.PrintWords Go.Proofs.YtobeonkddamnoaaDoorW.PrintLast Go.Proofs.YtobeonkddamnoaaDoor.Q Go.Proofs.YtobeonkddamnoaaDoor.M
set_option linter.unusedVariables false
set_option linter.unusedSimpArgs false
set_option maxHeartbeats 30000000 in
set_option maxRecDepth 100000 in
theorem obj_See.calls (k : Nat) (l3719 : List Int) (a3724 : Int) (a3725 : Int) (a3726 : Int) (a3727 : Int) (a3728 : Int) (a3729 : Int) (g3715 : Nat) (g3717 : Nat) (A3720 : Option Addr) (m3721 : Nat) (n3722 : Nat) (r : Bool × List Int × List Int) (w : World)  (HGl0 : Aside0 (Gl 0 #[.int .i64 0, .int .i64 0, .int .i64 0, .int .i64 0, .int .i64 0] (fps [b7 g3715 g3717 a3725 a3726 a3727 a3728, b6 g3717 A3720 m3721 n3722 a3724, r5 A3720 m3721 n3722 l3719]) w)) (HS : Aside0 (Sep (fps [b7 g3715 g3717 a3725 a3726 a3727 a3728, b6 g3717 A3720 m3721 n3722 a3724, r5 A3720 m3721 n3722 l3719]) w [b7 g3715 g3717 a3725 a3726 a3727 a3728, b6 g3717 A3720 m3721 n3722 a3724, r5 A3720 m3721 n3722 l3719] w)) (H : Aside0 (obj_See.f k l3719 a3724 a3725 a3726 a3727 a3728 a3729 = some r)) :
    Calls Tryd.prog 36 #[.pointer (some ⟨g3715, 0, none⟩), .int .i64 a3729] w fun e w' => ∃ (A4137 : Option Addr) (m4138 : Nat) (n4139 : Nat) (A4141 : Option Addr) (m4142 : Nat) (n4143 : Nat), e = .returned (.tuple #[.agg #[.slice A4137 m4138 n4139, .slice A4141 m4142 n4143], .bool r.1]) ∧ Sep (fps [b7 g3715 g3717 a3725 a3726 a3727 a3728, b6 g3717 A3720 m3721 n3722 a3724, r5 A3720 m3721 n3722 l3719]) w [b7 g3715 g3717 a3725 a3726 a3727 a3728, b6 g3717 A3720 m3721 n3722 a3724, r5 A3720 m3721 n3722 l3719, r16 A4137 m4138 n4139 r.2.1, r5 A4141 m4142 n4143 r.2.2] w' := by
  generalize (fps [b7 g3715 g3717 a3725 a3726 a3727 a3728, b6 g3717 A3720 m3721 n3722 a3724, r5 A3720 m3721 n3722 l3719]) = FF at HS HGl0 ⊢
  obtain rfl := (row_len (HS.out.at2)).symm
  unfold obj_See.f at H
  go_enter Tryd.func36, Tryd.ntmps36
  go_wp2_with (first | ((with_reducible refine gate_dst (N := 4) rfl ?_); refine box_on ?hg (N := 4) ?hd (cs := #[.slice none 0 0, .slice none 0 0]) (t := 71) ?hr ?_; (case hd => rfl); (case hg => rfl); (case hr => first | (go_simp; done) | (go_simp; rfl)); intro g3730 hg w3731 hbox hb; replace HS : Aside0 (Sep FF w [b7 g3715 g3717 a3725 a3726 a3727 a3728, b6 g3717 A3720 l3719.length n3722 a3724, r5 A3720 l3719.length n3722 l3719, b21 g3730] w3731) := ⟨HS.out.box hg hbox hb⟩; clear hg hbox hb; replace HS : Aside0 (Sep FF w [r16 none 0 0 [], b7 g3715 g3717 a3725 a3726 a3727 a3728, b6 g3717 A3720 l3719.length n3722 a3724, r5 A3720 l3719.length n3722 l3719, b22 g3730 none 0 0] w3731) := ⟨HS.out.nilrow 3 (Value.int .i64)⟩; replace HS : Aside0 (Sep FF w [r5 none 0 0 [], r16 none 0 0 [], b7 g3715 g3717 a3725 a3726 a3727 a3728, b6 g3717 A3720 l3719.length n3722 a3724, r5 A3720 l3719.length n3722 l3719, b23 g3730 none 0 0 none 0 0] w3731) := ⟨HS.out.nilrow 33 (Value.int .u32)⟩))
  replace HS : Aside0 (Sep FF w [r5 A3720 l3719.length n3722 l3719, r5 none 0 0 [], r16 none 0 0 [], b7 g3715 g3717 a3725 a3726 a3727 a3728, b6 g3717 A3720 l3719.length n3722 a3724, b23 g3730 none 0 0 none 0 0] w3731) := ⟨HS.out.front 4 (by simp)⟩
  replace HS : Aside0 (Sep FF w [b6 g3717 A3720 l3719.length n3722 a3724, r5 A3720 l3719.length n3722 l3719, r5 none 0 0 [], r16 none 0 0 [], b7 g3715 g3717 a3725 a3726 a3727 a3728, b23 g3730 none 0 0 none 0 0] w3731) := ⟨HS.out.front 4 (by simp)⟩
  replace HS : Aside0 (Sep FF w [b7 g3715 g3717 a3725 a3726 a3727 a3728, b6 g3717 A3720 l3719.length n3722 a3724, r5 A3720 l3719.length n3722 l3719, r5 none 0 0 [], r16 none 0 0 [], b23 g3730 none 0 0 none 0 0] w3731) := ⟨HS.out.front 4 (by simp)⟩
  obtain ⟨t3737, HA3738, H⟩ := bind_some H
  refine (obj_in.calls l3719 a3724 a3725 a3726 a3727 a3728 a3729 g3715 g3717 A3720 l3719.length n3722 t3737 _ ⟨HGl0.out.pass HS.out⟩ ⟨HS.out.begin⟩ HA3738).mono ?_
  rintro e_ w3739 ⟨rfl, hS⟩
  replace HS : Aside0 (Sep FF w [b7 g3715 g3717 a3725 a3726 a3727 a3728, b6 g3717 A3720 l3719.length n3722 a3724, r5 A3720 l3719.length n3722 l3719, r5 none 0 0 [], r16 none 0 0 [], b23 g3730 none 0 0 none 0 0] w3739) := ⟨HS.out.call hS⟩
  clear hS
  by_cases c3740 : t3737 = true
  · replace H := if_yes c3740 H
    have c3740b0 : t3737 = true := c3740
    have c3740b1 : (!t3737) = false := by rw [c3740b0]; rfl
    try rw [c3740b1]
    clear c3740
    go_wp2_with fail
    obtain ⟨t3787, HA3788, H⟩ := bind_some H
    refine (ground_Ground_SeeWord.calls l3719 a3724 a3725 a3726 a3727 a3728 (wrap64 (a3729 - 1)) 0 g3715 g3717 A3720 l3719.length n3722 t3787 _ ⟨HGl0.out.pass HS.out⟩ ⟨HS.out.begin⟩ HA3788).mono ?_
    rintro e_ w3789 ⟨rfl, hS⟩
    replace HS : Aside0 (Sep FF w [b7 g3715 g3717 a3725 a3726 a3727 a3728, b6 g3717 A3720 l3719.length n3722 a3724, r5 A3720 l3719.length n3722 l3719, r5 none 0 0 [], r16 none 0 0 [], b23 g3730 none 0 0 none 0 0] w3789) := ⟨HS.out.call hS⟩
    clear hS
    go_wp2_with fail
    obtain ⟨t3790, HA3791, H⟩ := bind_some H
    refine (tag_Unpack.calls t3787 t3790 _ ⟨HGl0.out.pass (l := []) HS.out⟩ ⟨Sep.start _⟩ HA3791).mono ?_
    rintro e_ w3792 ⟨rfl, hS⟩
    replace HS : Aside0 (Sep FF w [b7 g3715 g3717 a3725 a3726 a3727 a3728, b6 g3717 A3720 l3719.length n3722 a3724, r5 A3720 l3719.length n3722 l3719, r5 none 0 0 [], r16 none 0 0 [], b23 g3730 none 0 0 none 0 0] w3792) := ⟨HS.out.call hS⟩
    clear hS
    have fl3793 : ∀ w, (Instr.field 32 (.agg #[.int .i64 t3790.1, .int .i64 t3790.2.1, .int .i64 t3790.2.2.1, .int .i64 t3790.2.2.2.1, .int .i64 t3790.2.2.2.2.1, .int .i64 t3790.2.2.2.2.2.1, .int .i64 t3790.2.2.2.2.2.2]) 0).run Tryd.prog w = .ok (.int .i64 t3790.1) w := fun _ => by kernel_rfl
    go_wp2_with fail
    clear fl3793
    obtain ⟨t3794, HA3795, H⟩ := bind_some H
    refine (obj_isHead.calls t3790.1 t3794 _ ⟨HGl0.out.pass (l := []) HS.out⟩ ⟨Sep.start _⟩ HA3795).mono ?_
    rintro e_ w3796 ⟨rfl, hS⟩
    replace HS : Aside0 (Sep FF w [b7 g3715 g3717 a3725 a3726 a3727 a3728, b6 g3717 A3720 l3719.length n3722 a3724, r5 A3720 l3719.length n3722 l3719, r5 none 0 0 [], r16 none 0 0 [], b23 g3730 none 0 0 none 0 0] w3796) := ⟨HS.out.call hS⟩
    clear hS
    by_cases c3797 : t3794 = true
    · replace H := if_yes c3797 H
      have c3797b0 : t3794 = true := c3797
      have c3797b1 : (!t3794) = false := by rw [c3797b0]; rfl
      try rw [c3797b1]
      clear c3797
      go_wp2_with fail
      obtain ⟨t3798, HA3799, H⟩ := bind_some H
      refine (ground_Ground_SeeWord.calls l3719 a3724 a3725 a3726 a3727 a3728 (wrap64 (a3729 - 1)) 1 g3715 g3717 A3720 l3719.length n3722 t3798 _ ⟨HGl0.out.pass HS.out⟩ ⟨HS.out.begin⟩ HA3799).mono ?_
      rintro e_ w3800 ⟨rfl, hS⟩
      replace HS : Aside0 (Sep FF w [b7 g3715 g3717 a3725 a3726 a3727 a3728, b6 g3717 A3720 l3719.length n3722 a3724, r5 A3720 l3719.length n3722 l3719, r5 none 0 0 [], r16 none 0 0 [], b23 g3730 none 0 0 none 0 0] w3800) := ⟨HS.out.call hS⟩
      clear hS
      go_wp2_with fail
      obtain ⟨t3801, HA3802, H⟩ := bind_some H
      refine (ground_Ground_SeeWord.calls l3719 a3724 a3725 a3726 a3727 a3728 (wrap64 (a3729 - 1)) 2 g3715 g3717 A3720 l3719.length n3722 t3801 _ ⟨HGl0.out.pass HS.out⟩ ⟨HS.out.begin⟩ HA3802).mono ?_
      rintro e_ w3803 ⟨rfl, hS⟩
      replace HS : Aside0 (Sep FF w [b7 g3715 g3717 a3725 a3726 a3727 a3728, b6 g3717 A3720 l3719.length n3722 a3724, r5 A3720 l3719.length n3722 l3719, r5 none 0 0 [], r16 none 0 0 [], b23 g3730 none 0 0 none 0 0] w3803) := ⟨HS.out.call hS⟩
      clear hS
      go_wp2_with fail
      obtain ⟨t3804, HA3805, H⟩ := bind_some H
      refine (ground_Ground_Conf.calls l3719 a3724 a3725 a3726 a3727 a3728 g3715 g3717 A3720 l3719.length n3722 t3804 _ ⟨HGl0.out.pass HS.out⟩ ⟨HS.out.begin⟩ HA3805).mono ?_
      rintro e_ w3806 ⟨rfl, hS⟩
      replace HS : Aside0 (Sep FF w [b7 g3715 g3717 a3725 a3726 a3727 a3728, b6 g3717 A3720 l3719.length n3722 a3724, r5 A3720 l3719.length n3722 l3719, r5 none 0 0 [], r16 none 0 0 [], b23 g3730 none 0 0 none 0 0] w3806) := ⟨HS.out.call hS⟩
      clear hS
      have fl3807 : ∀ w, (Instr.field 30 (.agg #[.int .i64 t3804.1, .int .i64 t3804.2.1, .int .i64 t3804.2.2.1, .int .i64 t3804.2.2.2]) 1).run Tryd.prog w = .ok (.int .i64 t3804.2.1) w := fun _ => by kernel_rfl
      go_wp2_with fail
      clear fl3807
      obtain ⟨t3808, HA3809, H⟩ := bind_some H
      refine (shape_Blocks.calls _ t3804.2.1 (wrap64 (t3798)) (wrap64 (t3801)) t3808 _ ⟨HGl0.out.pass (l := []) HS.out⟩ ⟨Sep.start _⟩ HA3809).mono ?_
      rintro e_ w3810 ⟨rfl, hS⟩
      replace HS : Aside0 (Sep FF w [b7 g3715 g3717 a3725 a3726 a3727 a3728, b6 g3717 A3720 l3719.length n3722 a3724, r5 A3720 l3719.length n3722 l3719, r5 none 0 0 [], r16 none 0 0 [], b23 g3730 none 0 0 none 0 0] w3810) := ⟨HS.out.call hS⟩
      clear hS
      by_cases c3811 : t3808.2 = 0
      · replace H := if_yes c3811 H
        have c3811b0 : (t3808.2 == 0) = true := beq_iff_eq.mpr c3811
        have c3811b1 : (t3808.2 != 0) = false := bne_eq_false_iff_eq.mpr c3811
        clear c3811
        go_wp2_with (first | ((with_reducible refine gate_dst (N := 10) rfl ?_); refine box_on ?hg (N := 10) ?hd (cs := #[.slice none 0 0, .slice none 0 0]) (t := 71) ?hr ?_; (case hd => rfl); (case hg => rfl); (case hr => first | (go_simp; done) | (go_simp; rfl)); intro g3812 hg w3813 hbox hb; replace HS : Aside0 (Sep FF w [b7 g3715 g3717 a3725 a3726 a3727 a3728, b6 g3717 A3720 l3719.length n3722 a3724, r5 A3720 l3719.length n3722 l3719, r5 none 0 0 [], r16 none 0 0 [], b23 g3730 none 0 0 none 0 0, b21 g3812] w3813) := ⟨HS.out.box hg hbox hb⟩; clear hg hbox hb; replace HS : Aside0 (Sep FF w [r16 none 0 0 [], b7 g3715 g3717 a3725 a3726 a3727 a3728, b6 g3717 A3720 l3719.length n3722 a3724, r5 A3720 l3719.length n3722 l3719, r5 none 0 0 [], r16 none 0 0 [], b23 g3730 none 0 0 none 0 0, b22 g3812 none 0 0] w3813) := ⟨HS.out.nilrow 3 (Value.int .i64)⟩; replace HS : Aside0 (Sep FF w [r5 none 0 0 [], r16 none 0 0 [], b7 g3715 g3717 a3725 a3726 a3727 a3728, b6 g3717 A3720 l3719.length n3722 a3724, r5 A3720 l3719.length n3722 l3719, r5 none 0 0 [], r16 none 0 0 [], b23 g3730 none 0 0 none 0 0, b23 g3812 none 0 0 none 0 0] w3813) := ⟨HS.out.nilrow 33 (Value.int .u32)⟩))
        obtain ⟨o3879, AL3880, H⟩ := bind_some H
        go_loopg [51] k (fun kq v51 wc => ∃ (x3883 : Int) (x3884 : List Int) (A3885 : Option Addr) (m3886 : Nat) (n3887 : Nat), v51 = .int .i64 x3883 ∧ Aside0 (obj_See.lo0 kq l3719 a3724 a3725 a3726 a3727 a3728 a3729 t3798 t3801 x3883 x3884 = some o3879) ∧ Aside0 (Sep FF w [r5 none 0 0 [], r16 A3885 m3886 n3887 x3884, b7 g3715 g3717 a3725 a3726 a3727 a3728, b6 g3717 A3720 l3719.length n3722 a3724, r5 A3720 l3719.length n3722 l3719, r5 none 0 0 [], r16 none 0 0 [], b23 g3730 none 0 0 none 0 0, b23 g3812 A3885 m3886 n3887 none 0 0] wc))
        case atStart => exact ⟨(0), (([] : List Int)), (none), (0), (0), (by first | rfl | (simp [IntKind.wrap_u32]; done)), AL3880, ⟨HS.out⟩⟩
        case round =>
          clear AL3880 HS
          obtain ⟨x3883, x3884, A3885, m3886, n3887, rfl, AL3880, HS⟩ := hrel
          obtain ⟨w3881, rfl⟩ : ∃ x : World, x = wr := ⟨_, rfl⟩
          obtain rfl := (row_len (HS.out.at1)).symm
          cases gk with
          | zero => exact absurd AL3880.out (by simp [obj_See.lo0])
          | succ k3882 =>
            have AL0 := AL3880.out
            rw [obj_See.lo0] at AL0
            clear AL3880
            have AL3880 := Aside0.mk AL0
            clear AL0
            by_cases c3889 : x3883 < (wrap64 (t3798))
            · replace AL3880 := if_yes c3889 AL3880
              have c3889b0 : decide (x3883 < (wrap64 (t3798))) = true := decide_eq_true c3889
              clear c3889
              go_wp2_with fail
              refine start_ (n := 14) (S := (fun w' => w'.cell? ⟨g3812, 0, none⟩ = some (.slice A3885 x3884.length n3887))) (ds := [13]) #[false, false, false, false, false, false, false, false, false, false, false, false, false, false] (by kernel_rfl) rfl rfl (blk_cellv ((HS.out.drew).at8) 0 rfl) (fun hHeld => ?_)
              have HS_ := Aside0.mk HS.out.drew
              clear HS
              generalize World.drew _ = w3891 at HS_ hHeld ⊢
              have HS := HS_
              clear HS_
              refine pure_ (i := 0) (N := some 54) (v := ?_) (a' := ?_) #[true, false, false, false, false, false, false, false, false, false, false, false, false, false] rfl rfl (by kernel_rfl) (fun _ _ _ h => h) (Or.inl ⟨by rfl, ?_⟩) ?_ ?_
              rotate_left
              · intro w'
                go_simp
                with_reducible rfl
              rotate_left
              · simp only [Act.put, List.setIfInBounds_toArray, List.set_cons_zero, List.set_cons_succ, i64_w, i32_w]
                rfl
              refine pure_ (i := 2) (N := some 56) (v := ?_) (a' := ?_) #[true, false, true, false, false, false, false, false, false, false, false, false, false, false] rfl rfl (by kernel_rfl) (fun _ _ _ h => h) (Or.inl ⟨by rfl, ?_⟩) ?_ ?_
              rotate_left
              · intro w'
                go_simp
                with_reducible rfl
              rotate_left
              · simp only [Act.put, List.setIfInBounds_toArray, List.set_cons_zero, List.set_cons_succ, i64_w, i32_w]
                rfl
              refine pure_ (i := 3) (N := some 57) (v := ?_) (a' := ?_) #[true, false, true, true, false, false, false, false, false, false, false, false, false, false] rfl rfl (by kernel_rfl) (fun _ _ _ h => h) (Or.inl ⟨by rfl, ?_⟩) ?_ ?_
              rotate_left
              · intro w'
                go_simp
                with_reducible rfl
              rotate_left
              · simp only [Act.put, List.setIfInBounds_toArray, List.set_cons_zero, List.set_cons_succ, i64_w, i32_w]
                rfl
              refine pure_ (i := 4) (N := some 58) (v := ?_) (a' := ?_) #[true, false, true, true, true, false, false, false, false, false, false, false, false, false] rfl rfl (by kernel_rfl) (fun _ _ _ h => h) (Or.inl ⟨by rfl, ?_⟩) ?_ ?_
              rotate_left
              · intro w'
                go_simp
                with_reducible rfl
              rotate_left
              · simp only [Act.put, List.setIfInBounds_toArray, List.set_cons_zero, List.set_cons_succ, i64_w, i32_w]
                rfl
              refine pure_ (i := 5) (N := some 59) (v := ?_) (a' := ?_) #[true, false, true, true, true, true, false, false, false, false, false, false, false, false] rfl rfl (by kernel_rfl) (fun _ _ _ h => h) (Or.inl ⟨by rfl, ?_⟩) ?_ ?_
              rotate_left
              · intro w'
                go_simp
                with_reducible rfl
              rotate_left
              · simp only [Act.put, List.setIfInBounds_toArray, List.set_cons_zero, List.set_cons_succ, i64_w, i32_w]
                rfl
              refine pure_ (i := 6) (N := some 60) (v := ?_) (a' := ?_) #[true, false, true, true, true, true, true, false, false, false, false, false, false, false] rfl rfl (by kernel_rfl) (fun _ _ _ h => h) (Or.inl ⟨by rfl, ?_⟩) ?_ ?_
              rotate_left
              · intro w'
                go_simp
                with_reducible rfl
              rotate_left
              · simp only [Act.put, List.setIfInBounds_toArray, List.set_cons_zero, List.set_cons_succ, i64_w, i32_w]
                rfl
              refine pure_ (i := 7) (N := some 61) (v := ?_) (a' := ?_) #[true, false, true, true, true, true, true, true, false, false, false, false, false, false] rfl rfl (by kernel_rfl) (fun _ _ _ h => h) (Or.inl ⟨by rfl, ?_⟩) ?_ ?_
              rotate_left
              · intro w'
                go_simp
                with_reducible rfl
              rotate_left
              · simp only [Act.put, List.setIfInBounds_toArray, List.set_cons_zero, List.set_cons_succ, i64_w, i32_w]
                rfl
              refine take_ (i := 1) (N := some 55) (v := ?_) (a' := ?_) #[true, true, true, true, true, true, true, true, false, false, false, false, false, false] rfl rfl (by kernel_rfl) (fun _ _ _ h => h) (Or.inl ⟨by rfl, ?_⟩) hHeld ?_ ?_
              rotate_left
              · rintro w' hS'
                have s0 := hS'
                go_simp
                with_reducible rfl
              rotate_left
              · simp only [Act.put, List.setIfInBounds_toArray, List.set_cons_zero, List.set_cons_succ, i64_w, i32_w]
                rfl
              refine one_ (i := 8) (N := some 62) #[true, true, true, true, true, true, true, true, true, false, false, false, false, false] rfl rfl (by kernel_rfl) (by decide) (fun K hK => ?_)
              replace HS : Aside0 (Sep FF w [r5 A3720 l3719.length n3722 l3719, r5 none 0 0 [], r16 A3885 x3884.length n3887 x3884, b7 g3715 g3717 a3725 a3726 a3727 a3728, b6 g3717 A3720 l3719.length n3722 a3724, r5 none 0 0 [], r16 none 0 0 [], b23 g3730 none 0 0 none 0 0, b23 g3812 A3885 x3884.length n3887 none 0 0] w3891) := ⟨HS.out.front 4 (by simp)⟩
              replace HS : Aside0 (Sep FF w [b6 g3717 A3720 l3719.length n3722 a3724, r5 A3720 l3719.length n3722 l3719, r5 none 0 0 [], r16 A3885 x3884.length n3887 x3884, b7 g3715 g3717 a3725 a3726 a3727 a3728, r5 none 0 0 [], r16 none 0 0 [], b23 g3730 none 0 0 none 0 0, b23 g3812 A3885 x3884.length n3887 none 0 0] w3891) := ⟨HS.out.front 4 (by simp)⟩
              replace HS : Aside0 (Sep FF w [b7 g3715 g3717 a3725 a3726 a3727 a3728, b6 g3717 A3720 l3719.length n3722 a3724, r5 A3720 l3719.length n3722 l3719, r5 none 0 0 [], r16 A3885 x3884.length n3887 x3884, r5 none 0 0 [], r16 none 0 0 [], b23 g3730 none 0 0 none 0 0, b23 g3812 A3885 x3884.length n3887 none 0 0] w3891) := ⟨HS.out.front 4 (by simp)⟩
              obtain ⟨t3864, HA3892, AL3880⟩ := bind_some AL3880
              refine goes_ Tryd.func102 (by kernel_rfl) rfl #[.pointer (some ⟨g3715, 0, none⟩), .int .i64 a3729, .int .i64 (wrap64 ((wrap64 (t3798)) + (wrap64 (t3801)))), .int .i64 x3883] (by rfl) rfl rfl (by (try simp only [List.map_toArray, List.map_cons, List.map_nil]); first | done | rfl) ?_
              refine (obj_look.calls _ l3719 a3724 a3725 a3726 a3727 a3728 a3729 (wrap64 ((wrap64 (t3798)) + (wrap64 (t3801)))) x3883 g3715 g3717 A3720 l3719.length n3722 t3864 _ ⟨HGl0.out.pass HS.out⟩ ⟨HS.out.begin⟩ HA3892).mono ?_
              rintro e_ w3893 ⟨rfl, hS⟩
              replace HS : Aside0 (Sep FF w [b7 g3715 g3717 a3725 a3726 a3727 a3728, b6 g3717 A3720 l3719.length n3722 a3724, r5 A3720 l3719.length n3722 l3719, r5 none 0 0 [], r16 A3885 x3884.length n3887 x3884, r5 none 0 0 [], r16 none 0 0 [], b23 g3730 none 0 0 none 0 0, b23 g3812 A3885 x3884.length n3887 none 0 0] w3893) := ⟨HS.out.call hS⟩
              clear hS
              refine ⟨_, rfl, ?_⟩
              refine hK.out _ _ (blk_cellv (HS.out.at8) 0 rfl) (fun hHeld => ?_)
              clear hK K
              refine norm_ (a' := ?_) ?_ ?_
              rotate_left
              · show Act.put _ (some 62) _ = _
                simp only [Act.put, List.setIfInBounds_toArray, List.set_cons_zero, List.set_cons_succ, i64_w, i32_w]
                rfl
              refine pure_ (i := 9) (N := some 63) (v := ?_) (a' := ?_) #[true, true, true, true, true, true, true, true, true, true, false, false, false, false] rfl rfl (by kernel_rfl) (fun _ _ _ h => h) (Or.inl ⟨by rfl, ?_⟩) ?_ ?_
              rotate_left
              · intro w'
                go_simp
                with_reducible rfl
              rotate_left
              · simp only [Act.put, List.setIfInBounds_toArray, List.set_cons_zero, List.set_cons_succ, i64_w, i32_w]
                rfl
              refine one_ (i := 10) (N := some 64) #[true, true, true, true, true, true, true, true, true, true, true, false, false, false] rfl rfl (by kernel_rfl) (by decide) (fun K hK => ?_)
              refine slice_step (n := 1) (by rfl) (N := 64) rfl (cs := #[.int .i64 (wrap64 (t3864))]) (t := 3) ?hr ?_
              case hr => first | (go_simp; done) | (go_simp; rfl)
              intro g3894 hg w3895 hbox hb
              replace HS : Aside0 (Sep FF w [b7 g3715 g3717 a3725 a3726 a3727 a3728, b6 g3717 A3720 l3719.length n3722 a3724, r5 A3720 l3719.length n3722 l3719, r5 none 0 0 [], r16 A3885 x3884.length n3887 x3884, r5 none 0 0 [], r16 none 0 0 [], b23 g3730 none 0 0 none 0 0, b23 g3812 A3885 x3884.length n3887 none 0 0, b10 g3894 (wrap64 (t3864))] w3895) := ⟨HS.out.box hg hbox hb⟩
              clear hg hbox hb
              refine hK.out _ _ (blk_cellv (HS.out.at8) 0 rfl) (fun hHeld => ?_)
              clear hK K
              refine norm_ (a' := ?_) ?_ ?_
              rotate_left
              · show Act.put _ (some 64) _ = _
                simp only [Act.put, List.setIfInBounds_toArray, List.set_cons_zero, List.set_cons_succ, i64_w, i32_w]
                rfl
              refine one_ (i := 11) (N := some 65) #[true, true, true, true, true, true, true, true, true, true, true, true, false, false] rfl rfl (by kernel_rfl) (by decide) (fun K hK => ?_)
              by_cases c3897 : x3884.length < 17592186044416
              · replace AL3880 := if_yes c3897 AL3880
                have c3897b0 : decide (x3884.length < 17592186044416) = true := decide_eq_true c3897
                clear c3897
                obtain ⟨y3873, HA3901, AL3880⟩ := bind_some AL3880
                refine append_step (l1 := [b7 g3715 g3717 a3725 a3726 a3727 a3728, b6 g3717 A3720 l3719.length n3722 a3724, r5 A3720 l3719.length n3722 l3719, r5 none 0 0 []]) (l2 := [r5 none 0 0 [], r16 none 0 0 [], b23 g3730 none 0 0 none 0 0, b23 g3812 A3885 x3884.length n3887 none 0 0, b10 g3894 (wrap64 (t3864))]) (by rfl) (.tmp 55) (.tmp 64) 49 3 (.int .i64 0) 8 rfl Tryd.underlying49 (by kernel_rfl) rfl (by decide) (Value.int .i64) (fun _ => rfl) (.slice A3885 x3884.length n3887) (x3884 : List Int) [wrap64 (t3864)] ⟨g3894, 0, none⟩ 1 rfl rfl (blk_news (xs := [wrap64 (t3864)]) (HS.out.nth 9 rfl)) HS.out (by have := of_decide_eq_true c3897b0; simp only [List.length_cons, List.length_nil]; omega) HA3901 ?_
                intro A3898 n3899 w3900 HS1
                replace HS : Aside0 (Sep FF w [b7 g3715 g3717 a3725 a3726 a3727 a3728, b6 g3717 A3720 l3719.length n3722 a3724, r5 A3720 l3719.length n3722 l3719, r5 none 0 0 [], r16 A3898 y3873.length n3899 y3873, r5 none 0 0 [], r16 none 0 0 [], b23 g3730 none 0 0 none 0 0, b23 g3812 A3885 x3884.length n3887 none 0 0, b10 g3894 (wrap64 (t3864))] w3900) := ⟨HS1⟩
                clear HS1
                refine hK.out _ _ (blk_cellv (HS.out.at8) 0 rfl) (fun hHeld => ?_)
                clear hK K
                refine norm_ (a' := ?_) ?_ ?_
                rotate_left
                · show Act.put _ (some 65) _ = _
                  simp only [Act.put, List.setIfInBounds_toArray, List.set_cons_zero, List.set_cons_succ, i64_w, i32_w]
                  rfl
                refine pure_ (i := 12) (N := some 66) (v := ?_) (a' := ?_) #[true, true, true, true, true, true, true, true, true, true, true, true, true, false] rfl rfl (by kernel_rfl) (fun _ _ _ h => h) (Or.inl ⟨by rfl, ?_⟩) ?_ ?_
                rotate_left
                · intro w'
                  go_simp
                  with_reducible rfl
                rotate_left
                · simp only [Act.put, List.setIfInBounds_toArray, List.set_cons_zero, List.set_cons_succ, i64_w, i32_w]
                  rfl
                refine last_ (i := 13) (N := none) #[true, true, true, true, true, true, true, true, true, true, true, true, true, true] rfl rfl (by kernel_rfl) (by decide) (fun K hK => ?_)
                have hc3904 := blk_cellv (v := .slice A3885 x3884.length n3887) (HS.out.at8) 0 rfl
                have hz3905 := blk_fz (HS.out.at8) 0
                refine store_step (w1 := (World.setCell w3900 ⟨g3812, 0, none⟩ (.slice A3898 y3873.length n3899))) (by rfl) rfl ?hr ?_
                case hr => first | (go_simp; done) | (go_simp; rfl)
                clear hc3904 hz3905
                intro w3903 hst
                have hq0 : Sep FF w [b7 g3715 g3717 a3725 a3726 a3727 a3728, b6 g3717 A3720 l3719.length n3722 a3724, r5 A3720 l3719.length n3722 l3719, r5 none 0 0 [], r16 A3898 y3873.length n3899 y3873, r5 none 0 0 [], r16 none 0 0 [], b23 g3730 none 0 0 none 0 0, b23 g3812 A3898 y3873.length n3899 none 0 0, b10 g3894 (wrap64 (t3864))] (World.setCell w3900 ⟨g3812, 0, none⟩ (.slice A3898 y3873.length n3899)) := (HS.out).set1 (l1 := [b7 g3715 g3717 a3725 a3726 a3727 a3728, b6 g3717 A3720 l3719.length n3722 a3724, r5 A3720 l3719.length n3722 l3719, r5 none 0 0 [], r16 A3898 y3873.length n3899 y3873, r5 none 0 0 [], r16 none 0 0 [], b23 g3730 none 0 0 none 0 0]) (l2 := [b10 g3894 (wrap64 (t3864))]) 0 (.slice A3898 y3873.length n3899)
                have HS_ : Aside0 (Sep FF w [b7 g3715 g3717 a3725 a3726 a3727 a3728, b6 g3717 A3720 l3719.length n3722 a3724, r5 A3720 l3719.length n3722 l3719, r5 none 0 0 [], r16 A3898 y3873.length n3899 y3873, r5 none 0 0 [], r16 none 0 0 [], b23 g3730 none 0 0 none 0 0, b23 g3812 A3898 y3873.length n3899 none 0 0, b10 g3894 (wrap64 (t3864))] w3903) := ⟨by rw [hst]; exact hq0⟩
                clear hq0
                clear HS hst
                have HS := HS_
                clear HS_
                refine hK.out _ _ ?_
                clear hK K
                refine done_ (by kernel_rfl) ?_
                replace HS : Aside0 (Sep FF w [b7 g3715 g3717 a3725 a3726 a3727 a3728, b6 g3717 A3720 l3719.length n3722 a3724, r5 A3720 l3719.length n3722 l3719, r5 none 0 0 [], r16 A3898 y3873.length n3899 y3873, r5 none 0 0 [], r16 none 0 0 [], b23 g3730 none 0 0 none 0 0, b23 g3812 A3898 y3873.length n3899 none 0 0] w3903) := ⟨HS.out.sub (.cons_cons _ (.cons_cons _ (.cons_cons _ (.cons_cons _ (.cons_cons _ (.cons_cons _ (.cons_cons _ (.cons_cons _ (.cons_cons _ (.cons _ .slnil))))))))))⟩
                go_wp2_with fail
                go_roundg k3882
                case measure => exact Nat.lt_succ_self _
                case rel => exact ⟨(wrap64 (x3883 + 1)), (y3873), (A3898), (y3873.length), (n3899), (by first | rfl | (simp [IntKind.wrap_u32]; done)), Aside0.mk AL3880.out, ⟨((((((((((HS.out).front 8 (by simp)).front 8 (by simp)).front 8 (by simp)).front 8 (by simp)).front 6 (by simp)).front 6 (by simp)).front 6 (by simp)).front 8 (by simp)).front 8 (by simp)).keep (l := [r5 none 0 0 [], r16 A3898 y3873.length n3899 y3873, b7 g3715 g3717 a3725 a3726 a3727 a3728, b6 g3717 A3720 l3719.length n3722 a3724, r5 A3720 l3719.length n3722 l3719, r5 none 0 0 [], r16 none 0 0 [], b23 g3730 none 0 0 none 0 0, b23 g3812 A3898 y3873.length n3899 none 0 0]) (rest := [])⟩⟩
              · replace AL3880 := if_no c3897 AL3880
                have c3897b0 : decide (x3884.length < 17592186044416) = false := decide_eq_false c3897
                clear c3897
                exact (none_no AL3880).elim
            · replace AL3880 := if_no c3889 AL3880
              have c3889b0 : decide (x3883 < (wrap64 (t3798))) = false := decide_eq_false c3889
              clear c3889
              have ho := some_eq AL3880
              subst ho
              clear AL3880
              go_wp2_with fail
              obtain ⟨o3930, AL3931, H⟩ := bind_some H
              go_loopg [69] k (fun kq v69 wc => ∃ (x3934 : Int) (x3935 : List Int) (A3936 : Option Addr) (m3937 : Nat) (n3938 : Nat), v69 = .int .i64 x3934 ∧ Aside0 (obj_See.lo1 kq l3719 a3724 a3725 a3726 a3727 a3728 a3729 t3798 t3801 x3934 x3935 = some o3930) ∧ Aside0 (Sep FF w [r5 A3936 m3937 n3938 x3935, r16 A3885 x3884.length n3887 x3884, b7 g3715 g3717 a3725 a3726 a3727 a3728, b6 g3717 A3720 l3719.length n3722 a3724, r5 A3720 l3719.length n3722 l3719, r5 none 0 0 [], r16 none 0 0 [], b23 g3730 none 0 0 none 0 0, b23 g3812 A3885 x3884.length n3887 A3936 m3937 n3938] wc))
              case atStart => exact ⟨(0), (([] : List Int)), (none), (0), (0), (by first | rfl | (simp [IntKind.wrap_u32]; done)), AL3931, ⟨HS.out⟩⟩
              case round =>
                clear AL3931 HS
                obtain ⟨x3934, x3935, A3936, m3937, n3938, rfl, AL3931, HS⟩ := hrel
                obtain ⟨w3932, rfl⟩ : ∃ x : World, x = wr := ⟨_, rfl⟩
                obtain rfl := (row_len (HS.out.at0)).symm
                cases gk with
                | zero => exact absurd AL3931.out (by simp [obj_See.lo1])
                | succ k3933 =>
                  have AL0 := AL3931.out
                  rw [obj_See.lo1] at AL0
                  clear AL3931
                  have AL3931 := Aside0.mk AL0
                  clear AL0
                  by_cases c3940 : x3934 < (wrap64 (t3801))
                  · replace AL3931 := if_yes c3940 AL3931
                    have c3940b0 : decide (x3934 < (wrap64 (t3801))) = true := decide_eq_true c3940
                    clear c3940
                    go_wp2_with fail
                    refine start_ (n := 15) (S := (fun w' => w'.cell? ⟨g3812, 1, none⟩ = some (.slice A3936 x3935.length n3938))) (ds := [14]) #[false, false, false, false, false, false, false, false, false, false, false, false, false, false, false] (by kernel_rfl) rfl rfl (blk_cellv ((HS.out.drew).at8) 1 rfl) (fun hHeld => ?_)
                    have HS_ := Aside0.mk HS.out.drew
                    clear HS
                    generalize World.drew _ = w3942 at HS_ hHeld ⊢
                    have HS := HS_
                    clear HS_
                    refine pure_ (i := 0) (N := some 72) (v := ?_) (a' := ?_) #[true, false, false, false, false, false, false, false, false, false, false, false, false, false, false] rfl rfl (by kernel_rfl) (fun _ _ _ h => h) (Or.inl ⟨by rfl, ?_⟩) ?_ ?_
                    rotate_left
                    · intro w'
                      go_simp
                      with_reducible rfl
                    rotate_left
                    · simp only [Act.put, List.setIfInBounds_toArray, List.set_cons_zero, List.set_cons_succ, i64_w, i32_w]
                      rfl
                    refine pure_ (i := 2) (N := some 74) (v := ?_) (a' := ?_) #[true, false, true, false, false, false, false, false, false, false, false, false, false, false, false] rfl rfl (by kernel_rfl) (fun _ _ _ h => h) (Or.inl ⟨by rfl, ?_⟩) ?_ ?_
                    rotate_left
                    · intro w'
                      go_simp
                      with_reducible rfl
                    rotate_left
                    · simp only [Act.put, List.setIfInBounds_toArray, List.set_cons_zero, List.set_cons_succ, i64_w, i32_w]
                      rfl
                    refine pure_ (i := 3) (N := some 75) (v := ?_) (a' := ?_) #[true, false, true, true, false, false, false, false, false, false, false, false, false, false, false] rfl rfl (by kernel_rfl) (fun _ _ _ h => h) (Or.inl ⟨by rfl, ?_⟩) ?_ ?_
                    rotate_left
                    · intro w'
                      go_simp
                      with_reducible rfl
                    rotate_left
                    · simp only [Act.put, List.setIfInBounds_toArray, List.set_cons_zero, List.set_cons_succ, i64_w, i32_w]
                      rfl
                    refine pure_ (i := 4) (N := some 76) (v := ?_) (a' := ?_) #[true, false, true, true, true, false, false, false, false, false, false, false, false, false, false] rfl rfl (by kernel_rfl) (fun _ _ _ h => h) (Or.inl ⟨by rfl, ?_⟩) ?_ ?_
                    rotate_left
                    · intro w'
                      go_simp
                      with_reducible rfl
                    rotate_left
                    · simp only [Act.put, List.setIfInBounds_toArray, List.set_cons_zero, List.set_cons_succ, i64_w, i32_w]
                      rfl
                    refine pure_ (i := 5) (N := some 77) (v := ?_) (a' := ?_) #[true, false, true, true, true, true, false, false, false, false, false, false, false, false, false] rfl rfl (by kernel_rfl) (fun _ _ _ h => h) (Or.inl ⟨by rfl, ?_⟩) ?_ ?_
                    rotate_left
                    · intro w'
                      go_simp
                      with_reducible rfl
                    rotate_left
                    · simp only [Act.put, List.setIfInBounds_toArray, List.set_cons_zero, List.set_cons_succ, i64_w, i32_w]
                      rfl
                    refine pure_ (i := 6) (N := some 78) (v := ?_) (a' := ?_) #[true, false, true, true, true, true, true, false, false, false, false, false, false, false, false] rfl rfl (by kernel_rfl) (fun _ _ _ h => h) (Or.inl ⟨by rfl, ?_⟩) ?_ ?_
                    rotate_left
                    · intro w'
                      go_simp
                      with_reducible rfl
                    rotate_left
                    · simp only [Act.put, List.setIfInBounds_toArray, List.set_cons_zero, List.set_cons_succ, i64_w, i32_w]
                      rfl
                    refine pure_ (i := 7) (N := some 79) (v := ?_) (a' := ?_) #[true, false, true, true, true, true, true, true, false, false, false, false, false, false, false] rfl rfl (by kernel_rfl) (fun _ _ _ h => h) (Or.inl ⟨by rfl, ?_⟩) ?_ ?_
                    rotate_left
                    · intro w'
                      go_simp
                      with_reducible rfl
                    rotate_left
                    · simp only [Act.put, List.setIfInBounds_toArray, List.set_cons_zero, List.set_cons_succ, i64_w, i32_w]
                      rfl
                    refine pure_ (i := 8) (N := some 80) (v := ?_) (a' := ?_) #[true, false, true, true, true, true, true, true, true, false, false, false, false, false, false] rfl rfl (by kernel_rfl) (fun _ _ _ h => h) (Or.inl ⟨by rfl, ?_⟩) ?_ ?_
                    rotate_left
                    · intro w'
                      go_simp
                      with_reducible rfl
                    rotate_left
                    · simp only [Act.put, List.setIfInBounds_toArray, List.set_cons_zero, List.set_cons_succ, i64_w, i32_w]
                      rfl
                    refine pure_ (i := 9) (N := some 81) (v := ?_) (a' := ?_) #[true, false, true, true, true, true, true, true, true, true, false, false, false, false, false] rfl rfl (by kernel_rfl) (fun _ _ _ h => h) (Or.inl ⟨by rfl, ?_⟩) ?_ ?_
                    rotate_left
                    · intro w'
                      go_simp
                      with_reducible rfl
                    rotate_left
                    · simp only [Act.put, List.setIfInBounds_toArray, List.set_cons_zero, List.set_cons_succ, i64_w, i32_w]
                      rfl
                    refine take_ (i := 1) (N := some 73) (v := ?_) (a' := ?_) #[true, true, true, true, true, true, true, true, true, true, false, false, false, false, false] rfl rfl (by kernel_rfl) (fun _ _ _ h => h) (Or.inl ⟨by rfl, ?_⟩) hHeld ?_ ?_
                    rotate_left
                    · rintro w' hS'
                      have s0 := hS'
                      go_simp
                      with_reducible rfl
                    rotate_left
                    · simp only [Act.put, List.setIfInBounds_toArray, List.set_cons_zero, List.set_cons_succ, i64_w, i32_w]
                      rfl
                    refine one_ (i := 10) (N := some 82) #[true, true, true, true, true, true, true, true, true, true, true, false, false, false, false] rfl rfl (by kernel_rfl) (by decide) (fun K hK => ?_)
                    replace HS : Aside0 (Sep FF w [r5 A3720 l3719.length n3722 l3719, r5 A3936 x3935.length n3938 x3935, r16 A3885 x3884.length n3887 x3884, b7 g3715 g3717 a3725 a3726 a3727 a3728, b6 g3717 A3720 l3719.length n3722 a3724, r5 none 0 0 [], r16 none 0 0 [], b23 g3730 none 0 0 none 0 0, b23 g3812 A3885 x3884.length n3887 A3936 x3935.length n3938] w3942) := ⟨HS.out.front 4 (by simp)⟩
                    replace HS : Aside0 (Sep FF w [b6 g3717 A3720 l3719.length n3722 a3724, r5 A3720 l3719.length n3722 l3719, r5 A3936 x3935.length n3938 x3935, r16 A3885 x3884.length n3887 x3884, b7 g3715 g3717 a3725 a3726 a3727 a3728, r5 none 0 0 [], r16 none 0 0 [], b23 g3730 none 0 0 none 0 0, b23 g3812 A3885 x3884.length n3887 A3936 x3935.length n3938] w3942) := ⟨HS.out.front 4 (by simp)⟩
                    replace HS : Aside0 (Sep FF w [b7 g3715 g3717 a3725 a3726 a3727 a3728, b6 g3717 A3720 l3719.length n3722 a3724, r5 A3720 l3719.length n3722 l3719, r5 A3936 x3935.length n3938 x3935, r16 A3885 x3884.length n3887 x3884, r5 none 0 0 [], r16 none 0 0 [], b23 g3730 none 0 0 none 0 0, b23 g3812 A3885 x3884.length n3887 A3936 x3935.length n3938] w3942) := ⟨HS.out.front 4 (by simp)⟩
                    obtain ⟨t3915, HA3943, AL3931⟩ := bind_some AL3931
                    refine goes_ Tryd.func102 (by kernel_rfl) rfl #[.pointer (some ⟨g3715, 0, none⟩), .int .i64 a3729, .int .i64 (wrap64 ((wrap64 (t3798)) + (wrap64 (t3801)))), .int .i64 (wrap64 ((wrap64 (t3798)) + x3934))] (by rfl) rfl rfl (by (try simp only [List.map_toArray, List.map_cons, List.map_nil]); first | done | rfl) ?_
                    refine (obj_look.calls _ l3719 a3724 a3725 a3726 a3727 a3728 a3729 (wrap64 ((wrap64 (t3798)) + (wrap64 (t3801)))) (wrap64 ((wrap64 (t3798)) + x3934)) g3715 g3717 A3720 l3719.length n3722 t3915 _ ⟨HGl0.out.pass HS.out⟩ ⟨HS.out.begin⟩ HA3943).mono ?_
                    rintro e_ w3944 ⟨rfl, hS⟩
                    replace HS : Aside0 (Sep FF w [b7 g3715 g3717 a3725 a3726 a3727 a3728, b6 g3717 A3720 l3719.length n3722 a3724, r5 A3720 l3719.length n3722 l3719, r5 A3936 x3935.length n3938 x3935, r16 A3885 x3884.length n3887 x3884, r5 none 0 0 [], r16 none 0 0 [], b23 g3730 none 0 0 none 0 0, b23 g3812 A3885 x3884.length n3887 A3936 x3935.length n3938] w3944) := ⟨HS.out.call hS⟩
                    clear hS
                    refine ⟨_, rfl, ?_⟩
                    refine hK.out _ _ (blk_cellv (HS.out.at8) 1 rfl) (fun hHeld => ?_)
                    clear hK K
                    refine norm_ (a' := ?_) ?_ ?_
                    rotate_left
                    · show Act.put _ (some 82) _ = _
                      simp only [Act.put, List.setIfInBounds_toArray, List.set_cons_zero, List.set_cons_succ, i64_w, i32_w]
                      rfl
                    refine one_ (i := 11) (N := some 83) #[true, true, true, true, true, true, true, true, true, true, true, true, false, false, false] rfl rfl (by kernel_rfl) (by decide) (fun K hK => ?_)
                    refine slice_step (n := 1) (by rfl) (N := 83) rfl (cs := #[.int .u32 t3915]) (t := 33) ?hr ?_
                    case hr => first | (go_simp; done) | (go_simp; rfl)
                    intro g3945 hg w3946 hbox hb
                    replace HS : Aside0 (Sep FF w [b7 g3715 g3717 a3725 a3726 a3727 a3728, b6 g3717 A3720 l3719.length n3722 a3724, r5 A3720 l3719.length n3722 l3719, r5 A3936 x3935.length n3938 x3935, r16 A3885 x3884.length n3887 x3884, r5 none 0 0 [], r16 none 0 0 [], b23 g3730 none 0 0 none 0 0, b23 g3812 A3885 x3884.length n3887 A3936 x3935.length n3938, b13 g3945 t3915] w3946) := ⟨HS.out.box hg hbox hb⟩
                    clear hg hbox hb
                    refine hK.out _ _ (blk_cellv (HS.out.at8) 1 rfl) (fun hHeld => ?_)
                    clear hK K
                    refine norm_ (a' := ?_) ?_ ?_
                    rotate_left
                    · show Act.put _ (some 83) _ = _
                      simp only [Act.put, List.setIfInBounds_toArray, List.set_cons_zero, List.set_cons_succ, i64_w, i32_w]
                      rfl
                    refine one_ (i := 12) (N := some 84) #[true, true, true, true, true, true, true, true, true, true, true, true, true, false, false] rfl rfl (by kernel_rfl) (by decide) (fun K hK => ?_)
                    by_cases c3948 : x3935.length < 35184372088832
                    · replace AL3931 := if_yes c3948 AL3931
                      have c3948b0 : decide (x3935.length < 35184372088832) = true := decide_eq_true c3948
                      clear c3948
                      obtain ⟨y3924, HA3952, AL3931⟩ := bind_some AL3931
                      refine append_step (l1 := [b7 g3715 g3717 a3725 a3726 a3727 a3728, b6 g3717 A3720 l3719.length n3722 a3724, r5 A3720 l3719.length n3722 l3719]) (l2 := [r16 A3885 x3884.length n3887 x3884, r5 none 0 0 [], r16 none 0 0 [], b23 g3730 none 0 0 none 0 0, b23 g3812 A3885 x3884.length n3887 A3936 x3935.length n3938, b13 g3945 t3915]) (by rfl) (.tmp 73) (.tmp 83) 69 33 (.int .u32 0) 4 rfl Tryd.underlying69 (by kernel_rfl) rfl (by decide) (Value.int .u32) (fun _ => rfl) (.slice A3936 x3935.length n3938) (x3935 : List Int) [t3915] ⟨g3945, 0, none⟩ 1 rfl rfl (blk_news (xs := [t3915]) (HS.out.nth 9 rfl)) HS.out (by have := of_decide_eq_true c3948b0; simp only [List.length_cons, List.length_nil]; omega) HA3952 ?_
                      intro A3949 n3950 w3951 HS1
                      replace HS : Aside0 (Sep FF w [b7 g3715 g3717 a3725 a3726 a3727 a3728, b6 g3717 A3720 l3719.length n3722 a3724, r5 A3720 l3719.length n3722 l3719, r5 A3949 y3924.length n3950 y3924, r16 A3885 x3884.length n3887 x3884, r5 none 0 0 [], r16 none 0 0 [], b23 g3730 none 0 0 none 0 0, b23 g3812 A3885 x3884.length n3887 A3936 x3935.length n3938, b13 g3945 t3915] w3951) := ⟨HS1⟩
                      clear HS1
                      refine hK.out _ _ (blk_cellv (HS.out.at8) 1 rfl) (fun hHeld => ?_)
                      clear hK K
                      refine norm_ (a' := ?_) ?_ ?_
                      rotate_left
                      · show Act.put _ (some 84) _ = _
                        simp only [Act.put, List.setIfInBounds_toArray, List.set_cons_zero, List.set_cons_succ, i64_w, i32_w]
                        rfl
                      refine pure_ (i := 13) (N := some 85) (v := ?_) (a' := ?_) #[true, true, true, true, true, true, true, true, true, true, true, true, true, true, false] rfl rfl (by kernel_rfl) (fun _ _ _ h => h) (Or.inl ⟨by rfl, ?_⟩) ?_ ?_
                      rotate_left
                      · intro w'
                        go_simp
                        with_reducible rfl
                      rotate_left
                      · simp only [Act.put, List.setIfInBounds_toArray, List.set_cons_zero, List.set_cons_succ, i64_w, i32_w]
                        rfl
                      refine last_ (i := 14) (N := none) #[true, true, true, true, true, true, true, true, true, true, true, true, true, true, true] rfl rfl (by kernel_rfl) (by decide) (fun K hK => ?_)
                      have hc3955 := blk_cellv (v := .slice A3936 x3935.length n3938) (HS.out.at8) 1 rfl
                      have hz3956 := blk_fz (HS.out.at8) 1
                      refine store_step (w1 := (World.setCell w3951 ⟨g3812, 1, none⟩ (.slice A3949 y3924.length n3950))) (by rfl) rfl ?hr ?_
                      case hr => first | (go_simp; done) | (go_simp; rfl)
                      clear hc3955 hz3956
                      intro w3954 hst
                      have hq0 : Sep FF w [b7 g3715 g3717 a3725 a3726 a3727 a3728, b6 g3717 A3720 l3719.length n3722 a3724, r5 A3720 l3719.length n3722 l3719, r5 A3949 y3924.length n3950 y3924, r16 A3885 x3884.length n3887 x3884, r5 none 0 0 [], r16 none 0 0 [], b23 g3730 none 0 0 none 0 0, b23 g3812 A3885 x3884.length n3887 A3949 y3924.length n3950, b13 g3945 t3915] (World.setCell w3951 ⟨g3812, 1, none⟩ (.slice A3949 y3924.length n3950)) := (HS.out).set1 (l1 := [b7 g3715 g3717 a3725 a3726 a3727 a3728, b6 g3717 A3720 l3719.length n3722 a3724, r5 A3720 l3719.length n3722 l3719, r5 A3949 y3924.length n3950 y3924, r16 A3885 x3884.length n3887 x3884, r5 none 0 0 [], r16 none 0 0 [], b23 g3730 none 0 0 none 0 0]) (l2 := [b13 g3945 t3915]) 1 (.slice A3949 y3924.length n3950)
                      have HS_ : Aside0 (Sep FF w [b7 g3715 g3717 a3725 a3726 a3727 a3728, b6 g3717 A3720 l3719.length n3722 a3724, r5 A3720 l3719.length n3722 l3719, r5 A3949 y3924.length n3950 y3924, r16 A3885 x3884.length n3887 x3884, r5 none 0 0 [], r16 none 0 0 [], b23 g3730 none 0 0 none 0 0, b23 g3812 A3885 x3884.length n3887 A3949 y3924.length n3950, b13 g3945 t3915] w3954) := ⟨by rw [hst]; exact hq0⟩
                      clear hq0
                      clear HS hst
                      have HS := HS_
                      clear HS_
                      refine hK.out _ _ ?_
                      clear hK K
                      refine done_ (by kernel_rfl) ?_
                      replace HS : Aside0 (Sep FF w [b7 g3715 g3717 a3725 a3726 a3727 a3728, b6 g3717 A3720 l3719.length n3722 a3724, r5 A3720 l3719.length n3722 l3719, r5 A3949 y3924.length n3950 y3924, r16 A3885 x3884.length n3887 x3884, r5 none 0 0 [], r16 none 0 0 [], b23 g3730 none 0 0 none 0 0, b23 g3812 A3885 x3884.length n3887 A3949 y3924.length n3950] w3954) := ⟨HS.out.sub (.cons_cons _ (.cons_cons _ (.cons_cons _ (.cons_cons _ (.cons_cons _ (.cons_cons _ (.cons_cons _ (.cons_cons _ (.cons_cons _ (.cons _ .slnil))))))))))⟩
                      go_wp2_with fail
                      go_roundg k3933
                      case measure => exact Nat.lt_succ_self _
                      case rel => exact ⟨(wrap64 (x3934 + 1)), (y3924), (A3949), (y3924.length), (n3950), (by first | rfl | (simp [IntKind.wrap_u32]; done)), Aside0.mk AL3931.out, ⟨((((((((((HS.out).front 8 (by simp)).front 8 (by simp)).front 8 (by simp)).front 8 (by simp)).front 6 (by simp)).front 6 (by simp)).front 6 (by simp)).front 8 (by simp)).front 8 (by simp)).keep (l := [r5 A3949 y3924.length n3950 y3924, r16 A3885 x3884.length n3887 x3884, b7 g3715 g3717 a3725 a3726 a3727 a3728, b6 g3717 A3720 l3719.length n3722 a3724, r5 A3720 l3719.length n3722 l3719, r5 none 0 0 [], r16 none 0 0 [], b23 g3730 none 0 0 none 0 0, b23 g3812 A3885 x3884.length n3887 A3949 y3924.length n3950]) (rest := [])⟩⟩
                    · replace AL3931 := if_no c3948 AL3931
                      have c3948b0 : decide (x3935.length < 35184372088832) = false := decide_eq_false c3948
                      clear c3948
                      exact (none_no AL3931).elim
                  · replace AL3931 := if_no c3940 AL3931
                    have c3940b0 : decide (x3934 < (wrap64 (t3801))) = false := decide_eq_false c3940
                    clear c3940
                    have ho := some_eq AL3931
                    subst ho
                    clear AL3931
                    have hc3957 : w3932.cell? ⟨g3812, 0, none⟩ = some (.slice A3885 x3884.length n3887) := blk_cellv (HS.out.at8) 0 rfl
                    have hc3958 : w3932.cell? ⟨g3812, 1, none⟩ = some (.slice A3936 x3935.length n3938) := blk_cellv (HS.out.at8) 1 rfl
                    have hc3959 : w3932.cell? ⟨g3730, 0, none⟩ = some (.slice none 0 0) := blk_cellv (HS.out.at7) 0 rfl
                    have hz3960 : w3932.frozen? ⟨g3730, 0, none⟩ = false := blk_fz (HS.out.at7) 0
                    have hc3961 : w3932.cell? ⟨g3730, 1, none⟩ = some (.slice none 0 0) := blk_cellv (HS.out.at7) 1 rfl
                    have hz3962 : w3932.frozen? ⟨g3730, 1, none⟩ = false := blk_fz (HS.out.at7) 1
                    go_wp2_with (first | ((with_reducible refine gate_store (t := 71) (p := 4) rfl ?_); refine store_event (w1 := (World.setCell (World.setCell w3932 ⟨g3730, 0, none⟩ (.slice A3885 x3884.length n3887)) ⟨g3730, 1, none⟩ (.slice A3936 x3935.length n3938))) rfl (t := 71) (p := 4) rfl rfl ?hr ?_; (case hr => first | (go_simp; done) | (go_simp; rfl)); intro w3963 hst; clear hc3957 hc3958 hc3959 hz3960 hc3961 hz3962; have hq0 : Sep FF w [r5 A3936 x3935.length n3938 x3935, r16 A3885 x3884.length n3887 x3884, b7 g3715 g3717 a3725 a3726 a3727 a3728, b6 g3717 A3720 l3719.length n3722 a3724, r5 A3720 l3719.length n3722 l3719, r5 none 0 0 [], r16 none 0 0 [], b23 g3730 A3885 x3884.length n3887 none 0 0, b23 g3812 A3885 x3884.length n3887 A3936 x3935.length n3938] (World.setCell w3932 ⟨g3730, 0, none⟩ (.slice A3885 x3884.length n3887)) := (HS.out).set1 (l1 := [r5 A3936 x3935.length n3938 x3935, r16 A3885 x3884.length n3887 x3884, b7 g3715 g3717 a3725 a3726 a3727 a3728, b6 g3717 A3720 l3719.length n3722 a3724, r5 A3720 l3719.length n3722 l3719, r5 none 0 0 [], r16 none 0 0 []]) (l2 := [b23 g3812 A3885 x3884.length n3887 A3936 x3935.length n3938]) 0 (.slice A3885 x3884.length n3887); have hq1 : Sep FF w [r5 A3936 x3935.length n3938 x3935, r16 A3885 x3884.length n3887 x3884, b7 g3715 g3717 a3725 a3726 a3727 a3728, b6 g3717 A3720 l3719.length n3722 a3724, r5 A3720 l3719.length n3722 l3719, r5 none 0 0 [], r16 none 0 0 [], b23 g3730 A3885 x3884.length n3887 A3936 x3935.length n3938, b23 g3812 A3885 x3884.length n3887 A3936 x3935.length n3938] (World.setCell (World.setCell w3932 ⟨g3730, 0, none⟩ (.slice A3885 x3884.length n3887)) ⟨g3730, 1, none⟩ (.slice A3936 x3935.length n3938)) := (hq0).set1 (l1 := [r5 A3936 x3935.length n3938 x3935, r16 A3885 x3884.length n3887 x3884, b7 g3715 g3717 a3725 a3726 a3727 a3728, b6 g3717 A3720 l3719.length n3722 a3724, r5 A3720 l3719.length n3722 l3719, r5 none 0 0 [], r16 none 0 0 []]) (l2 := [b23 g3812 A3885 x3884.length n3887 A3936 x3935.length n3938]) 1 (.slice A3936 x3935.length n3938); replace HS : Aside0 (Sep FF w [r5 A3936 x3935.length n3938 x3935, r16 A3885 x3884.length n3887 x3884, b7 g3715 g3717 a3725 a3726 a3727 a3728, b6 g3717 A3720 l3719.length n3722 a3724, r5 A3720 l3719.length n3722 l3719, r5 none 0 0 [], r16 none 0 0 [], b23 g3730 A3885 x3884.length n3887 A3936 x3935.length n3938, b23 g3812 A3885 x3884.length n3887 A3936 x3935.length n3938] w3963) := ⟨by rw [hst]; exact hq1⟩; clear hq0 hq1; clear hst; replace HS : Aside0 (Sep FF w [r5 A3936 x3935.length n3938 x3935, r16 A3885 x3884.length n3887 x3884, b7 g3715 g3717 a3725 a3726 a3727 a3728, b6 g3717 A3720 l3719.length n3722 a3724, r5 A3720 l3719.length n3722 l3719, b23 g3730 A3885 x3884.length n3887 A3936 x3935.length n3938] w3963) := ⟨HS.out.sub (.cons_cons _ (.cons_cons _ (.cons_cons _ (.cons_cons _ (.cons_cons _ (.cons _ (.cons _ (.cons_cons _ (.cons _ .slnil)))))))))⟩))
                    have hc3964 : w3963.cell? ⟨g3730, 0, none⟩ = some (.slice A3885 x3884.length n3887) := blk_cellv (HS.out.at5) 0 rfl
                    have hc3965 : w3963.cell? ⟨g3730, 1, none⟩ = some (.slice A3936 x3935.length n3938) := blk_cellv (HS.out.at5) 1 rfl
                    refine bodyPost_ret (v := .tuple #[.agg #[.slice A3885 x3884.length n3887, .slice A3936 x3935.length n3938], .bool true]) (by simp [results, Tryd.results36, go_sem, hc3964, hc3965]) rfl ?_
                    rw [← some_eq H]
                    exact ⟨A3885, x3884.length, n3887, A3936, x3935.length, n3938, (by first | rfl | (simp [IntKind.wrap_u32]; done)), (((((HS.out).front 1 (by simp)).front 4 (by simp)).front 4 (by simp)).front 4 (by simp)).keep (l := [b7 g3715 g3717 a3725 a3726 a3727 a3728, b6 g3717 A3720 l3719.length n3722 a3724, r5 A3720 l3719.length n3722 l3719, r16 A3885 x3884.length n3887 x3884, r5 A3936 x3935.length n3938 x3935]) (rest := [b23 g3730 A3885 x3884.length n3887 A3936 x3935.length n3938])⟩
      · replace H := if_no c3811 H
        have c3811b0 : (t3808.2 == 0) = false := beq_eq_false_iff_ne.mpr c3811
        have c3811b1 : (t3808.2 != 0) = true := bne_iff_ne.mpr c3811
        clear c3811
        have hc4072 : w3810.cell? ⟨g3730, 0, none⟩ = some (.slice none 0 0) := blk_cellv (HS.out.at5) 0 rfl
        have hz4073 : w3810.frozen? ⟨g3730, 0, none⟩ = false := blk_fz (HS.out.at5) 0
        have hc4074 : w3810.cell? ⟨g3730, 1, none⟩ = some (.slice none 0 0) := blk_cellv (HS.out.at5) 1 rfl
        have hz4075 : w3810.frozen? ⟨g3730, 1, none⟩ = false := blk_fz (HS.out.at5) 1
        go_wp2_with (first | ((with_reducible refine gate_store (t := 71) (p := 4) rfl ?_); refine store_event (w1 := (World.setCell (World.setCell w3810 ⟨g3730, 0, none⟩ (.slice none 0 0)) ⟨g3730, 1, none⟩ (.slice none 0 0))) rfl (t := 71) (p := 4) rfl rfl ?hr ?_; (case hr => first | (go_simp; done) | (go_simp; rfl)); intro w4076 hst; clear hc4072 hz4073 hc4074 hz4075; have hq0 : Sep FF w [b7 g3715 g3717 a3725 a3726 a3727 a3728, b6 g3717 A3720 l3719.length n3722 a3724, r5 A3720 l3719.length n3722 l3719, r5 none 0 0 [], r16 none 0 0 [], b24 g3730 none 0 0] (World.setCell w3810 ⟨g3730, 0, none⟩ (.slice none 0 0)) := (HS.out).set1 (l1 := [b7 g3715 g3717 a3725 a3726 a3727 a3728, b6 g3717 A3720 l3719.length n3722 a3724, r5 A3720 l3719.length n3722 l3719, r5 none 0 0 [], r16 none 0 0 []]) (l2 := []) 0 (.slice none 0 0); have hq1 : Sep FF w [b7 g3715 g3717 a3725 a3726 a3727 a3728, b6 g3717 A3720 l3719.length n3722 a3724, r5 A3720 l3719.length n3722 l3719, r5 none 0 0 [], r16 none 0 0 [], b21 g3730] (World.setCell (World.setCell w3810 ⟨g3730, 0, none⟩ (.slice none 0 0)) ⟨g3730, 1, none⟩ (.slice none 0 0)) := (hq0).set1 (l1 := [b7 g3715 g3717 a3725 a3726 a3727 a3728, b6 g3717 A3720 l3719.length n3722 a3724, r5 A3720 l3719.length n3722 l3719, r5 none 0 0 [], r16 none 0 0 []]) (l2 := []) 1 (.slice none 0 0); replace HS : Aside0 (Sep FF w [b7 g3715 g3717 a3725 a3726 a3727 a3728, b6 g3717 A3720 l3719.length n3722 a3724, r5 A3720 l3719.length n3722 l3719, r5 none 0 0 [], r16 none 0 0 [], b21 g3730] w4076) := ⟨by rw [hst]; exact hq1⟩; clear hq0 hq1; clear hst; replace HS : Aside0 (Sep FF w [r16 none 0 0 [], b7 g3715 g3717 a3725 a3726 a3727 a3728, b6 g3717 A3720 l3719.length n3722 a3724, r5 A3720 l3719.length n3722 l3719, r5 none 0 0 [], r16 none 0 0 [], b22 g3730 none 0 0] w4076) := ⟨HS.out.nilrow 3 (Value.int .i64)⟩; replace HS : Aside0 (Sep FF w [r5 none 0 0 [], r16 none 0 0 [], b7 g3715 g3717 a3725 a3726 a3727 a3728, b6 g3717 A3720 l3719.length n3722 a3724, r5 A3720 l3719.length n3722 l3719, r5 none 0 0 [], r16 none 0 0 [], b23 g3730 none 0 0 none 0 0] w4076) := ⟨HS.out.nilrow 33 (Value.int .u32)⟩; replace HS : Aside0 (Sep FF w [r5 none 0 0 [], r16 none 0 0 [], b7 g3715 g3717 a3725 a3726 a3727 a3728, b6 g3717 A3720 l3719.length n3722 a3724, r5 A3720 l3719.length n3722 l3719, b23 g3730 none 0 0 none 0 0] w4076) := ⟨HS.out.sub (.cons_cons _ (.cons_cons _ (.cons_cons _ (.cons_cons _ (.cons_cons _ (.cons _ (.cons _ (.cons_cons _ .slnil))))))))⟩))
        have hc4081 : w4076.cell? ⟨g3730, 0, none⟩ = some (.slice none 0 0) := blk_cellv (HS.out.at5) 0 rfl
        have hc4082 : w4076.cell? ⟨g3730, 1, none⟩ = some (.slice none 0 0) := blk_cellv (HS.out.at5) 1 rfl
        refine bodyPost_ret (v := .tuple #[.agg #[.slice none 0 0, .slice none 0 0], .bool false]) (by simp [results, Tryd.results36, go_sem, hc4081, hc4082]) rfl ?_
        rw [← some_eq H]
        exact ⟨none, 0, 0, none, 0, 0, (by first | rfl | (simp [IntKind.wrap_u32]; done)), (((((HS.out).front 1 (by simp)).front 4 (by simp)).front 4 (by simp)).front 4 (by simp)).keep (l := [b7 g3715 g3717 a3725 a3726 a3727 a3728, b6 g3717 A3720 l3719.length n3722 a3724, r5 A3720 l3719.length n3722 l3719, r16 none 0 0 [], r5 none 0 0 []]) (rest := [b23 g3730 none 0 0 none 0 0])⟩
    · replace H := if_no c3797 H
      have c3797b0 : t3794 = false := by simpa using c3797
      have c3797b1 : (!t3794) = true := by rw [c3797b0]; rfl
      try rw [c3797b1]
      clear c3797
      have hc4093 : w3796.cell? ⟨g3730, 0, none⟩ = some (.slice none 0 0) := blk_cellv (HS.out.at5) 0 rfl
      have hz4094 : w3796.frozen? ⟨g3730, 0, none⟩ = false := blk_fz (HS.out.at5) 0
      have hc4095 : w3796.cell? ⟨g3730, 1, none⟩ = some (.slice none 0 0) := blk_cellv (HS.out.at5) 1 rfl
      have hz4096 : w3796.frozen? ⟨g3730, 1, none⟩ = false := blk_fz (HS.out.at5) 1
      go_wp2_with (first | ((with_reducible refine gate_store (t := 71) (p := 4) rfl ?_); refine store_event (w1 := (World.setCell (World.setCell w3796 ⟨g3730, 0, none⟩ (.slice none 0 0)) ⟨g3730, 1, none⟩ (.slice none 0 0))) rfl (t := 71) (p := 4) rfl rfl ?hr ?_; (case hr => first | (go_simp; done) | (go_simp; rfl)); intro w4097 hst; clear hc4093 hz4094 hc4095 hz4096; have hq0 : Sep FF w [b7 g3715 g3717 a3725 a3726 a3727 a3728, b6 g3717 A3720 l3719.length n3722 a3724, r5 A3720 l3719.length n3722 l3719, r5 none 0 0 [], r16 none 0 0 [], b24 g3730 none 0 0] (World.setCell w3796 ⟨g3730, 0, none⟩ (.slice none 0 0)) := (HS.out).set1 (l1 := [b7 g3715 g3717 a3725 a3726 a3727 a3728, b6 g3717 A3720 l3719.length n3722 a3724, r5 A3720 l3719.length n3722 l3719, r5 none 0 0 [], r16 none 0 0 []]) (l2 := []) 0 (.slice none 0 0); have hq1 : Sep FF w [b7 g3715 g3717 a3725 a3726 a3727 a3728, b6 g3717 A3720 l3719.length n3722 a3724, r5 A3720 l3719.length n3722 l3719, r5 none 0 0 [], r16 none 0 0 [], b21 g3730] (World.setCell (World.setCell w3796 ⟨g3730, 0, none⟩ (.slice none 0 0)) ⟨g3730, 1, none⟩ (.slice none 0 0)) := (hq0).set1 (l1 := [b7 g3715 g3717 a3725 a3726 a3727 a3728, b6 g3717 A3720 l3719.length n3722 a3724, r5 A3720 l3719.length n3722 l3719, r5 none 0 0 [], r16 none 0 0 []]) (l2 := []) 1 (.slice none 0 0); replace HS : Aside0 (Sep FF w [b7 g3715 g3717 a3725 a3726 a3727 a3728, b6 g3717 A3720 l3719.length n3722 a3724, r5 A3720 l3719.length n3722 l3719, r5 none 0 0 [], r16 none 0 0 [], b21 g3730] w4097) := ⟨by rw [hst]; exact hq1⟩; clear hq0 hq1; clear hst; replace HS : Aside0 (Sep FF w [r16 none 0 0 [], b7 g3715 g3717 a3725 a3726 a3727 a3728, b6 g3717 A3720 l3719.length n3722 a3724, r5 A3720 l3719.length n3722 l3719, r5 none 0 0 [], r16 none 0 0 [], b22 g3730 none 0 0] w4097) := ⟨HS.out.nilrow 3 (Value.int .i64)⟩; replace HS : Aside0 (Sep FF w [r5 none 0 0 [], r16 none 0 0 [], b7 g3715 g3717 a3725 a3726 a3727 a3728, b6 g3717 A3720 l3719.length n3722 a3724, r5 A3720 l3719.length n3722 l3719, r5 none 0 0 [], r16 none 0 0 [], b23 g3730 none 0 0 none 0 0] w4097) := ⟨HS.out.nilrow 33 (Value.int .u32)⟩; replace HS : Aside0 (Sep FF w [r5 none 0 0 [], r16 none 0 0 [], b7 g3715 g3717 a3725 a3726 a3727 a3728, b6 g3717 A3720 l3719.length n3722 a3724, r5 A3720 l3719.length n3722 l3719, b23 g3730 none 0 0 none 0 0] w4097) := ⟨HS.out.sub (.cons_cons _ (.cons_cons _ (.cons_cons _ (.cons_cons _ (.cons_cons _ (.cons _ (.cons _ (.cons_cons _ .slnil))))))))⟩))
      have hc4102 : w4097.cell? ⟨g3730, 0, none⟩ = some (.slice none 0 0) := blk_cellv (HS.out.at5) 0 rfl
      have hc4103 : w4097.cell? ⟨g3730, 1, none⟩ = some (.slice none 0 0) := blk_cellv (HS.out.at5) 1 rfl
      refine bodyPost_ret (v := .tuple #[.agg #[.slice none 0 0, .slice none 0 0], .bool false]) (by simp [results, Tryd.results36, go_sem, hc4102, hc4103]) rfl ?_
      rw [← some_eq H]
      exact ⟨none, 0, 0, none, 0, 0, (by first | rfl | (simp [IntKind.wrap_u32]; done)), (((((HS.out).front 1 (by simp)).front 4 (by simp)).front 4 (by simp)).front 4 (by simp)).keep (l := [b7 g3715 g3717 a3725 a3726 a3727 a3728, b6 g3717 A3720 l3719.length n3722 a3724, r5 A3720 l3719.length n3722 l3719, r16 none 0 0 [], r5 none 0 0 []]) (rest := [b23 g3730 none 0 0 none 0 0])⟩
  · replace H := if_no c3740 H
    have c3740b0 : t3737 = false := by simpa using c3740
    have c3740b1 : (!t3737) = true := by rw [c3740b0]; rfl
    try rw [c3740b1]
    clear c3740
    have hc4114 : w3739.cell? ⟨g3730, 0, none⟩ = some (.slice none 0 0) := blk_cellv (HS.out.at5) 0 rfl
    have hz4115 : w3739.frozen? ⟨g3730, 0, none⟩ = false := blk_fz (HS.out.at5) 0
    have hc4116 : w3739.cell? ⟨g3730, 1, none⟩ = some (.slice none 0 0) := blk_cellv (HS.out.at5) 1 rfl
    have hz4117 : w3739.frozen? ⟨g3730, 1, none⟩ = false := blk_fz (HS.out.at5) 1
    go_wp2_with (first | ((with_reducible refine gate_store (t := 71) (p := 4) rfl ?_); refine store_event (w1 := (World.setCell (World.setCell w3739 ⟨g3730, 0, none⟩ (.slice none 0 0)) ⟨g3730, 1, none⟩ (.slice none 0 0))) rfl (t := 71) (p := 4) rfl rfl ?hr ?_; (case hr => first | (go_simp; done) | (go_simp; rfl)); intro w4118 hst; clear hc4114 hz4115 hc4116 hz4117; have hq0 : Sep FF w [b7 g3715 g3717 a3725 a3726 a3727 a3728, b6 g3717 A3720 l3719.length n3722 a3724, r5 A3720 l3719.length n3722 l3719, r5 none 0 0 [], r16 none 0 0 [], b24 g3730 none 0 0] (World.setCell w3739 ⟨g3730, 0, none⟩ (.slice none 0 0)) := (HS.out).set1 (l1 := [b7 g3715 g3717 a3725 a3726 a3727 a3728, b6 g3717 A3720 l3719.length n3722 a3724, r5 A3720 l3719.length n3722 l3719, r5 none 0 0 [], r16 none 0 0 []]) (l2 := []) 0 (.slice none 0 0); have hq1 : Sep FF w [b7 g3715 g3717 a3725 a3726 a3727 a3728, b6 g3717 A3720 l3719.length n3722 a3724, r5 A3720 l3719.length n3722 l3719, r5 none 0 0 [], r16 none 0 0 [], b21 g3730] (World.setCell (World.setCell w3739 ⟨g3730, 0, none⟩ (.slice none 0 0)) ⟨g3730, 1, none⟩ (.slice none 0 0)) := (hq0).set1 (l1 := [b7 g3715 g3717 a3725 a3726 a3727 a3728, b6 g3717 A3720 l3719.length n3722 a3724, r5 A3720 l3719.length n3722 l3719, r5 none 0 0 [], r16 none 0 0 []]) (l2 := []) 1 (.slice none 0 0); replace HS : Aside0 (Sep FF w [b7 g3715 g3717 a3725 a3726 a3727 a3728, b6 g3717 A3720 l3719.length n3722 a3724, r5 A3720 l3719.length n3722 l3719, r5 none 0 0 [], r16 none 0 0 [], b21 g3730] w4118) := ⟨by rw [hst]; exact hq1⟩; clear hq0 hq1; clear hst; replace HS : Aside0 (Sep FF w [r16 none 0 0 [], b7 g3715 g3717 a3725 a3726 a3727 a3728, b6 g3717 A3720 l3719.length n3722 a3724, r5 A3720 l3719.length n3722 l3719, r5 none 0 0 [], r16 none 0 0 [], b22 g3730 none 0 0] w4118) := ⟨HS.out.nilrow 3 (Value.int .i64)⟩; replace HS : Aside0 (Sep FF w [r5 none 0 0 [], r16 none 0 0 [], b7 g3715 g3717 a3725 a3726 a3727 a3728, b6 g3717 A3720 l3719.length n3722 a3724, r5 A3720 l3719.length n3722 l3719, r5 none 0 0 [], r16 none 0 0 [], b23 g3730 none 0 0 none 0 0] w4118) := ⟨HS.out.nilrow 33 (Value.int .u32)⟩; replace HS : Aside0 (Sep FF w [r5 none 0 0 [], r16 none 0 0 [], b7 g3715 g3717 a3725 a3726 a3727 a3728, b6 g3717 A3720 l3719.length n3722 a3724, r5 A3720 l3719.length n3722 l3719, b23 g3730 none 0 0 none 0 0] w4118) := ⟨HS.out.sub (.cons_cons _ (.cons_cons _ (.cons_cons _ (.cons_cons _ (.cons_cons _ (.cons _ (.cons _ (.cons_cons _ .slnil))))))))⟩))
    have hc4123 : w4118.cell? ⟨g3730, 0, none⟩ = some (.slice none 0 0) := blk_cellv (HS.out.at5) 0 rfl
    have hc4124 : w4118.cell? ⟨g3730, 1, none⟩ = some (.slice none 0 0) := blk_cellv (HS.out.at5) 1 rfl
    refine bodyPost_ret (v := .tuple #[.agg #[.slice none 0 0, .slice none 0 0], .bool false]) (by simp [results, Tryd.results36, go_sem, hc4123, hc4124]) rfl ?_
    rw [← some_eq H]
    exact ⟨none, 0, 0, none, 0, 0, (by first | rfl | (simp [IntKind.wrap_u32]; done)), (((((HS.out).front 1 (by simp)).front 4 (by simp)).front 4 (by simp)).front 4 (by simp)).keep (l := [b7 g3715 g3717 a3725 a3726 a3727 a3728, b6 g3717 A3720 l3719.length n3722 a3724, r5 A3720 l3719.length n3722 l3719, r16 none 0 0 [], r5 none 0 0 []]) (rest := [b23 g3730 none 0 0 none 0 0])⟩

set_option maxHeartbeats 30000000 in
set_option maxRecDepth 100000 in
theorem ring_Cut.calls (k : Nat) (l4241 : List Int) (a4246 : Int) (a4247 : Int) (a4248 : Int) (a4249 : Int) (a4250 : Int) (a4251 : Int) (g4237 : Nat) (g4239 : Nat) (A4242 : Option Addr) (m4243 : Nat) (n4244 : Nat) (r : Bool × Int × List Int) (w : World)  (HGl0 : Aside0 (Gl 0 #[.int .i64 0, .int .i64 0, .int .i64 0, .int .i64 0, .int .i64 0] (fps [b7 g4237 g4239 a4247 a4248 a4249 a4250, b6 g4239 A4242 m4243 n4244 a4246, r5 A4242 m4243 n4244 l4241]) w)) (HS : Aside0 (Sep (fps [b7 g4237 g4239 a4247 a4248 a4249 a4250, b6 g4239 A4242 m4243 n4244 a4246, r5 A4242 m4243 n4244 l4241]) w [b7 g4237 g4239 a4247 a4248 a4249 a4250, b6 g4239 A4242 m4243 n4244 a4246, r5 A4242 m4243 n4244 l4241] w)) (H : Aside0 (ring_Cut.f k l4241 a4246 a4247 a4248 a4249 a4250 a4251 = some r)) :
    Calls Tryd.prog 24 #[.pointer (some ⟨g4237, 0, none⟩), .int .i64 a4251] w fun e w' => e = .returned (.bool r.1) ∧ Sep (fps [b7 g4237 g4239 a4247 a4248 a4249 a4250, b6 g4239 A4242 m4243 n4244 a4246, r5 A4242 m4243 n4244 l4241]) w [b7 g4237 g4239 a4247 a4248 a4249 a4250, b6 g4239 A4242 m4243 n4244 r.2.1, r5 A4242 m4243 n4244 r.2.2] w' := by
  generalize (fps [b7 g4237 g4239 a4247 a4248 a4249 a4250, b6 g4239 A4242 m4243 n4244 a4246, r5 A4242 m4243 n4244 l4241]) = FF at HS HGl0 ⊢
  obtain rfl := (row_len (HS.out.at2)).symm
  unfold ring_Cut.f at H
  go_enter Tryd.func24, Tryd.ntmps24
  go_wp2_with fail
  obtain ⟨t4308, HA4309, H⟩ := bind_some H
  refine (ring_marked.calls l4241 a4246 a4247 a4248 a4249 a4250 a4251 1 g4237 g4239 A4242 l4241.length n4244 t4308 _ ⟨HGl0.out.pass HS.out⟩ ⟨HS.out.begin⟩ HA4309).mono ?_
  rintro e_ w4310 ⟨rfl, hS⟩
  replace HS : Aside0 (Sep FF w [b7 g4237 g4239 a4247 a4248 a4249 a4250, b6 g4239 A4242 l4241.length n4244 t4308.2.2.2.2.2.2.2.2, r5 A4242 l4241.length n4244 l4241] w4310) := ⟨HS.out.call hS⟩
  clear hS
  by_cases c4329 : t4308.2.2.2.2.2.2.2.1 = true
  · replace H := if_yes c4329 H
    have c4329b0 : t4308.2.2.2.2.2.2.2.1 = true := c4329
    have c4329b1 : (!t4308.2.2.2.2.2.2.2.1) = false := by rw [c4329b0]; rfl
    try rw [c4329b1]
    clear c4329
    go_wp2_with (first | ((with_reducible refine gate_dst (N := 5) rfl ?_); refine box_on ?hg (N := 5) ?hd (cs := #[.int .i64 0, .int .i64 0, .int .i64 0, .int .i64 0, .int .i64 0, .int .i64 0, .int .i64 0]) (t := 32) ?hr ?_; (case hd => rfl); (case hg => rfl); (case hr => first | (go_simp; done) | (go_simp; rfl)); intro g4311 hg w4312 hbox hb; replace HS : Aside0 (Sep FF w [b7 g4237 g4239 a4247 a4248 a4249 a4250, b6 g4239 A4242 l4241.length n4244 t4308.2.2.2.2.2.2.2.2, r5 A4242 l4241.length n4244 l4241, b11 g4311 0 0 0 0 0 0 0] w4312) := ⟨HS.out.box hg hbox hb⟩; clear hg hbox hb; have hc4314 : w4312.cell? ⟨g4311, 0, none⟩ = some (.int .i64 0) := blk_cellv (HS.out.at3) 0 rfl; have hz4315 : w4312.frozen? ⟨g4311, 0, none⟩ = false := blk_fz (HS.out.at3) 0; have hc4316 : w4312.cell? ⟨g4311, 1, none⟩ = some (.int .i64 0) := blk_cellv (HS.out.at3) 1 rfl; have hz4317 : w4312.frozen? ⟨g4311, 1, none⟩ = false := blk_fz (HS.out.at3) 1; have hc4318 : w4312.cell? ⟨g4311, 2, none⟩ = some (.int .i64 0) := blk_cellv (HS.out.at3) 2 rfl; have hz4319 : w4312.frozen? ⟨g4311, 2, none⟩ = false := blk_fz (HS.out.at3) 2; have hc4320 : w4312.cell? ⟨g4311, 3, none⟩ = some (.int .i64 0) := blk_cellv (HS.out.at3) 3 rfl; have hz4321 : w4312.frozen? ⟨g4311, 3, none⟩ = false := blk_fz (HS.out.at3) 3; have hc4322 : w4312.cell? ⟨g4311, 4, none⟩ = some (.int .i64 0) := blk_cellv (HS.out.at3) 4 rfl; have hz4323 : w4312.frozen? ⟨g4311, 4, none⟩ = false := blk_fz (HS.out.at3) 4; have hc4324 : w4312.cell? ⟨g4311, 5, none⟩ = some (.int .i64 0) := blk_cellv (HS.out.at3) 5 rfl; have hz4325 : w4312.frozen? ⟨g4311, 5, none⟩ = false := blk_fz (HS.out.at3) 5; have hc4326 : w4312.cell? ⟨g4311, 6, none⟩ = some (.int .i64 0) := blk_cellv (HS.out.at3) 6 rfl; have hz4327 : w4312.frozen? ⟨g4311, 6, none⟩ = false := blk_fz (HS.out.at3) 6) | ((with_reducible refine gate_store (t := 32) (p := 5) rfl ?_); refine store_event (w1 := (World.setCell (World.setCell (World.setCell (World.setCell (World.setCell (World.setCell (World.setCell w4312 ⟨g4311, 0, none⟩ (.int .i64 t4308.1)) ⟨g4311, 1, none⟩ (.int .i64 t4308.2.1)) ⟨g4311, 2, none⟩ (.int .i64 t4308.2.2.1)) ⟨g4311, 3, none⟩ (.int .i64 t4308.2.2.2.1)) ⟨g4311, 4, none⟩ (.int .i64 t4308.2.2.2.2.1)) ⟨g4311, 5, none⟩ (.int .i64 t4308.2.2.2.2.2.1)) ⟨g4311, 6, none⟩ (.int .i64 t4308.2.2.2.2.2.2.1))) rfl (t := 32) (p := 5) rfl rfl ?hr ?_; (case hr => first | (go_simp; done) | (go_simp; rfl)); intro w4328 hst; clear hc4314 hz4315 hc4316 hz4317 hc4318 hz4319 hc4320 hz4321 hc4322 hz4323 hc4324 hz4325 hc4326 hz4327; replace HS : Aside0 (Sep FF w [b7 g4237 g4239 a4247 a4248 a4249 a4250, b6 g4239 A4242 l4241.length n4244 t4308.2.2.2.2.2.2.2.2, r5 A4242 l4241.length n4244 l4241, b11 g4311 t4308.1 t4308.2.1 t4308.2.2.1 t4308.2.2.2.1 t4308.2.2.2.2.1 t4308.2.2.2.2.2.1 t4308.2.2.2.2.2.2.1] w4328) := ⟨by rw [hst]; exact HS.out.setAll (l1 := [b7 g4237 g4239 a4247 a4248 a4249 a4250, b6 g4239 A4242 l4241.length n4244 t4308.2.2.2.2.2.2.2.2, r5 A4242 l4241.length n4244 l4241]) (l2 := []) [.int .i64 t4308.1, .int .i64 t4308.2.1, .int .i64 t4308.2.2.1, .int .i64 t4308.2.2.2.1, .int .i64 t4308.2.2.2.2.1, .int .i64 t4308.2.2.2.2.2.1, .int .i64 t4308.2.2.2.2.2.2.1] rfl⟩; clear hst; have hc4330 : w4328.cell? ⟨g4311, 0, none⟩ = some (.int .i64 t4308.1) := blk_cellv (HS.out.at3) 0 rfl; have hc4331 : w4328.cell? ⟨g4311, 1, none⟩ = some (.int .i64 t4308.2.1) := blk_cellv (HS.out.at3) 1 rfl; have hc4332 : w4328.cell? ⟨g4311, 2, none⟩ = some (.int .i64 t4308.2.2.1) := blk_cellv (HS.out.at3) 2 rfl; have hc4333 : w4328.cell? ⟨g4311, 3, none⟩ = some (.int .i64 t4308.2.2.2.1) := blk_cellv (HS.out.at3) 3 rfl; have hc4334 : w4328.cell? ⟨g4311, 4, none⟩ = some (.int .i64 t4308.2.2.2.2.1) := blk_cellv (HS.out.at3) 4 rfl; have hc4335 : w4328.cell? ⟨g4311, 5, none⟩ = some (.int .i64 t4308.2.2.2.2.2.1) := blk_cellv (HS.out.at3) 5 rfl; have hc4336 : w4328.cell? ⟨g4311, 6, none⟩ = some (.int .i64 t4308.2.2.2.2.2.2.1) := blk_cellv (HS.out.at3) 6 rfl))
    clear hc4330 hc4331 hc4332 hc4333 hc4334 hc4335 hc4336
    obtain ⟨t4337, HA4338, H⟩ := bind_some H
    refine (ring_mark.calls _ l4241 t4308.2.2.2.2.2.2.2.2 a4247 a4248 a4249 a4250 a4251 t4308.1 t4308.2.1 t4308.2.2.1 t4308.2.2.2.1 t4308.2.2.2.2.1 t4308.2.2.2.2.2.1 t4308.2.2.2.2.2.2.1 0 g4237 g4239 A4242 l4241.length n4244 t4337 _ ⟨HGl0.out.pass HS.out⟩ ⟨HS.out.begin⟩ HA4338).mono ?_
    rintro e_ w4339 ⟨rfl, hS⟩
    replace HS : Aside0 (Sep FF w [b7 g4237 g4239 a4247 a4248 a4249 a4250, b6 g4239 A4242 l4241.length n4244 t4337.1, r5 A4242 l4241.length n4244 t4337.2, b11 g4311 t4308.1 t4308.2.1 t4308.2.2.1 t4308.2.2.2.1 t4308.2.2.2.2.1 t4308.2.2.2.2.2.1 t4308.2.2.2.2.2.2.1] w4339) := ⟨HS.out.call hS⟩
    clear hS
    replace HS : Aside0 (Sep FF w [b7 g4237 g4239 a4247 a4248 a4249 a4250, b6 g4239 A4242 l4241.length n4244 t4337.1, r5 A4242 l4241.length n4244 t4337.2] w4339) := ⟨HS.out.sub (.cons_cons _ (.cons_cons _ (.cons_cons _ (.cons _ .slnil))))⟩
    go_wp2_with fail
    obtain ⟨t4340, HA4341, H⟩ := bind_some H
    refine (ground_Ground_Word.calls t4337.2 t4337.1 a4247 a4248 a4249 a4250 a4251 6 g4237 g4239 A4242 l4241.length n4244 t4340 _ ⟨HGl0.out.pass HS.out⟩ ⟨HS.out.begin⟩ HA4341).mono ?_
    rintro e_ w4342 ⟨rfl, hS⟩
    replace HS : Aside0 (Sep FF w [b7 g4237 g4239 a4247 a4248 a4249 a4250, b6 g4239 A4242 l4241.length n4244 t4340.2, r5 A4242 l4241.length n4244 t4337.2] w4342) := ⟨HS.out.call hS⟩
    clear hS
    go_wp2_with fail
    obtain ⟨t4343, HA4344, H⟩ := bind_some H
    refine (ground_Ground_Word.calls t4337.2 t4340.2 a4247 a4248 a4249 a4250 a4251 7 g4237 g4239 A4242 l4241.length n4244 t4343 _ ⟨HGl0.out.pass HS.out⟩ ⟨HS.out.begin⟩ HA4344).mono ?_
    rintro e_ w4345 ⟨rfl, hS⟩
    replace HS : Aside0 (Sep FF w [b7 g4237 g4239 a4247 a4248 a4249 a4250, b6 g4239 A4242 l4241.length n4244 t4343.2, r5 A4242 l4241.length n4244 t4337.2] w4345) := ⟨HS.out.call hS⟩
    clear hS
    go_wp2_with fail
    obtain ⟨t4346, HA4347, H⟩ := bind_some H
    refine (ring_link.calls t4337.2 t4343.2 a4247 a4248 a4249 a4250 (wrap64 (t4340.1)) 7 7 (wrap64 (t4343.1)) g4237 g4239 A4242 l4241.length n4244 t4346 _ ⟨HGl0.out.pass HS.out⟩ ⟨HS.out.begin⟩ HA4347).mono ?_
    rintro e_ w4348 ⟨rfl, hS⟩
    replace HS : Aside0 (Sep FF w [b7 g4237 g4239 a4247 a4248 a4249 a4250, b6 g4239 A4242 l4241.length n4244 t4346.1, r5 A4242 l4241.length n4244 t4346.2] w4348) := ⟨HS.out.call hS⟩
    clear hS
    go_wp2_with fail
    obtain ⟨t4349, HA4350, H⟩ := bind_some H
    refine (ring_link.calls t4346.2 t4346.1 a4247 a4248 a4249 a4250 (wrap64 (t4343.1)) 6 8 (wrap64 (t4340.1)) g4237 g4239 A4242 l4241.length n4244 t4349 _ ⟨HGl0.out.pass HS.out⟩ ⟨HS.out.begin⟩ HA4350).mono ?_
    rintro e_ w4351 ⟨rfl, hS⟩
    replace HS : Aside0 (Sep FF w [b7 g4237 g4239 a4247 a4248 a4249 a4250, b6 g4239 A4242 l4241.length n4244 t4349.1, r5 A4242 l4241.length n4244 t4349.2] w4351) := ⟨HS.out.call hS⟩
    clear hS
    go_wp2_with fail
    obtain ⟨t4352, HA4353, H⟩ := bind_some H
    refine (ground_Ground_SetWord.calls t4349.2 t4349.1 a4247 a4248 a4249 a4250 a4251 6 0 g4237 g4239 A4242 l4241.length n4244 t4352 _ ⟨HGl0.out.pass HS.out⟩ ⟨HS.out.begin⟩ HA4353).mono ?_
    rintro e_ w4354 ⟨rfl, hS⟩
    replace HS : Aside0 (Sep FF w [b7 g4237 g4239 a4247 a4248 a4249 a4250, b6 g4239 A4242 l4241.length n4244 t4352.2.1, r5 A4242 l4241.length n4244 t4352.2.2] w4354) := ⟨HS.out.call hS⟩
    clear hS
    go_wp2_with fail
    obtain ⟨t4355, HA4356, H⟩ := bind_some H
    refine (ground_Ground_SetWord.calls t4352.2.2 t4352.2.1 a4247 a4248 a4249 a4250 a4251 7 0 g4237 g4239 A4242 l4241.length n4244 t4355 _ ⟨HGl0.out.pass HS.out⟩ ⟨HS.out.begin⟩ HA4356).mono ?_
    rintro e_ w4357 ⟨rfl, hS⟩
    replace HS : Aside0 (Sep FF w [b7 g4237 g4239 a4247 a4248 a4249 a4250, b6 g4239 A4242 l4241.length n4244 t4355.2.1, r5 A4242 l4241.length n4244 t4355.2.2] w4357) := ⟨HS.out.call hS⟩
    clear hS
    go_wp2_with fail
    obtain ⟨t4358, HA4359, H⟩ := bind_some H
    refine (ground_Ground_Reg.calls t4355.2.2 t4355.2.1 a4247 a4248 a4249 a4250 9 g4237 g4239 A4242 l4241.length n4244 t4358 _ ⟨HGl0.out.pass HS.out⟩ ⟨HS.out.begin⟩ HA4359).mono ?_
    rintro e_ w4360 ⟨rfl, hS⟩
    replace HS : Aside0 (Sep FF w [b7 g4237 g4239 a4247 a4248 a4249 a4250, b6 g4239 A4242 l4241.length n4244 t4358.2, r5 A4242 l4241.length n4244 t4355.2.2] w4360) := ⟨HS.out.call hS⟩
    clear hS
    go_wp2_with fail
    obtain ⟨t4361, HA4362, H⟩ := bind_some H
    refine (ground_Ground_SetReg.calls t4355.2.2 t4358.2 a4247 a4248 a4249 a4250 9 (wrap64 (t4358.1 - 1)) g4237 g4239 A4242 l4241.length n4244 t4361 _ ⟨HGl0.out.pass HS.out⟩ ⟨HS.out.begin⟩ HA4362).mono ?_
    rintro e_ w4363 ⟨rfl, hS⟩
    replace HS : Aside0 (Sep FF w [b7 g4237 g4239 a4247 a4248 a4249 a4250, b6 g4239 A4242 l4241.length n4244 t4361.2.1, r5 A4242 l4241.length n4244 t4361.2.2] w4363) := ⟨HS.out.call hS⟩
    clear hS
    go_wp2_with fail
    go_ret
    rw [← some_eq H]
    exact ⟨(by first | rfl | (simp [IntKind.wrap_u32]; done)), HS.out⟩
  · replace H := if_no c4329 H
    have c4329b0 : t4308.2.2.2.2.2.2.2.1 = false := by simpa using c4329
    have c4329b1 : (!t4308.2.2.2.2.2.2.2.1) = true := by rw [c4329b0]; rfl
    try rw [c4329b1]
    clear c4329
    go_wp2_with (first | ((with_reducible refine gate_dst (N := 5) rfl ?_); refine box_on ?hg (N := 5) ?hd (cs := #[.int .i64 0, .int .i64 0, .int .i64 0, .int .i64 0, .int .i64 0, .int .i64 0, .int .i64 0]) (t := 32) ?hr ?_; (case hd => rfl); (case hg => rfl); (case hr => first | (go_simp; done) | (go_simp; rfl)); intro g4311 hg w4312 hbox hb; replace HS : Aside0 (Sep FF w [b7 g4237 g4239 a4247 a4248 a4249 a4250, b6 g4239 A4242 l4241.length n4244 t4308.2.2.2.2.2.2.2.2, r5 A4242 l4241.length n4244 l4241, b11 g4311 0 0 0 0 0 0 0] w4312) := ⟨HS.out.box hg hbox hb⟩; clear hg hbox hb; have hc4314 : w4312.cell? ⟨g4311, 0, none⟩ = some (.int .i64 0) := blk_cellv (HS.out.at3) 0 rfl; have hz4315 : w4312.frozen? ⟨g4311, 0, none⟩ = false := blk_fz (HS.out.at3) 0; have hc4316 : w4312.cell? ⟨g4311, 1, none⟩ = some (.int .i64 0) := blk_cellv (HS.out.at3) 1 rfl; have hz4317 : w4312.frozen? ⟨g4311, 1, none⟩ = false := blk_fz (HS.out.at3) 1; have hc4318 : w4312.cell? ⟨g4311, 2, none⟩ = some (.int .i64 0) := blk_cellv (HS.out.at3) 2 rfl; have hz4319 : w4312.frozen? ⟨g4311, 2, none⟩ = false := blk_fz (HS.out.at3) 2; have hc4320 : w4312.cell? ⟨g4311, 3, none⟩ = some (.int .i64 0) := blk_cellv (HS.out.at3) 3 rfl; have hz4321 : w4312.frozen? ⟨g4311, 3, none⟩ = false := blk_fz (HS.out.at3) 3; have hc4322 : w4312.cell? ⟨g4311, 4, none⟩ = some (.int .i64 0) := blk_cellv (HS.out.at3) 4 rfl; have hz4323 : w4312.frozen? ⟨g4311, 4, none⟩ = false := blk_fz (HS.out.at3) 4; have hc4324 : w4312.cell? ⟨g4311, 5, none⟩ = some (.int .i64 0) := blk_cellv (HS.out.at3) 5 rfl; have hz4325 : w4312.frozen? ⟨g4311, 5, none⟩ = false := blk_fz (HS.out.at3) 5; have hc4326 : w4312.cell? ⟨g4311, 6, none⟩ = some (.int .i64 0) := blk_cellv (HS.out.at3) 6 rfl; have hz4327 : w4312.frozen? ⟨g4311, 6, none⟩ = false := blk_fz (HS.out.at3) 6) | ((with_reducible refine gate_store (t := 32) (p := 5) rfl ?_); refine store_event (w1 := (World.setCell (World.setCell (World.setCell (World.setCell (World.setCell (World.setCell (World.setCell w4312 ⟨g4311, 0, none⟩ (.int .i64 t4308.1)) ⟨g4311, 1, none⟩ (.int .i64 t4308.2.1)) ⟨g4311, 2, none⟩ (.int .i64 t4308.2.2.1)) ⟨g4311, 3, none⟩ (.int .i64 t4308.2.2.2.1)) ⟨g4311, 4, none⟩ (.int .i64 t4308.2.2.2.2.1)) ⟨g4311, 5, none⟩ (.int .i64 t4308.2.2.2.2.2.1)) ⟨g4311, 6, none⟩ (.int .i64 t4308.2.2.2.2.2.2.1))) rfl (t := 32) (p := 5) rfl rfl ?hr ?_; (case hr => first | (go_simp; done) | (go_simp; rfl)); intro w4328 hst; clear hc4314 hz4315 hc4316 hz4317 hc4318 hz4319 hc4320 hz4321 hc4322 hz4323 hc4324 hz4325 hc4326 hz4327; replace HS : Aside0 (Sep FF w [b7 g4237 g4239 a4247 a4248 a4249 a4250, b6 g4239 A4242 l4241.length n4244 t4308.2.2.2.2.2.2.2.2, r5 A4242 l4241.length n4244 l4241, b11 g4311 t4308.1 t4308.2.1 t4308.2.2.1 t4308.2.2.2.1 t4308.2.2.2.2.1 t4308.2.2.2.2.2.1 t4308.2.2.2.2.2.2.1] w4328) := ⟨by rw [hst]; exact HS.out.setAll (l1 := [b7 g4237 g4239 a4247 a4248 a4249 a4250, b6 g4239 A4242 l4241.length n4244 t4308.2.2.2.2.2.2.2.2, r5 A4242 l4241.length n4244 l4241]) (l2 := []) [.int .i64 t4308.1, .int .i64 t4308.2.1, .int .i64 t4308.2.2.1, .int .i64 t4308.2.2.2.1, .int .i64 t4308.2.2.2.2.1, .int .i64 t4308.2.2.2.2.2.1, .int .i64 t4308.2.2.2.2.2.2.1] rfl⟩; clear hst; replace HS : Aside0 (Sep FF w [b7 g4237 g4239 a4247 a4248 a4249 a4250, b6 g4239 A4242 l4241.length n4244 t4308.2.2.2.2.2.2.2.2, r5 A4242 l4241.length n4244 l4241] w4328) := ⟨HS.out.sub (.cons_cons _ (.cons_cons _ (.cons_cons _ (.cons _ .slnil))))⟩))
    go_ret
    rw [← some_eq H]
    exact ⟨(by first | rfl | (simp [IntKind.wrap_u32]; done)), HS.out⟩

set_option maxHeartbeats 30000000 in
set_option maxRecDepth 100000 in
theorem count_change.calls (l4394 : List Int) (a4399 : Int) (a4400 : Int) (a4401 : Int) (a4402 : Int) (a4403 : Int) (a4404 : Int) (a4405 : Int) (a4406 : Int) (g4390 : Nat) (g4392 : Nat) (A4395 : Option Addr) (m4396 : Nat) (n4397 : Nat) (r : Int × Bool × Int × List Int) (w : World)  (HGl0 : Aside0 (Gl 0 #[.int .i64 0, .int .i64 0, .int .i64 0, .int .i64 0, .int .i64 0] (fps [b7 g4390 g4392 a4400 a4401 a4402 a4403, b6 g4392 A4395 m4396 n4397 a4399, r5 A4395 m4396 n4397 l4394]) w)) (HS : Aside0 (Sep (fps [b7 g4390 g4392 a4400 a4401 a4402 a4403, b6 g4392 A4395 m4396 n4397 a4399, r5 A4395 m4396 n4397 l4394]) w [b7 g4390 g4392 a4400 a4401 a4402 a4403, b6 g4392 A4395 m4396 n4397 a4399, r5 A4395 m4396 n4397 l4394] w)) (H : Aside0 (count_change.f l4394 a4399 a4400 a4401 a4402 a4403 a4404 a4405 a4406 = some r)) :
    Calls Tryd.prog 103 #[.pointer (some ⟨g4390, 0, none⟩), .int .i64 a4404, .int .i64 a4405, .int .i64 a4406] w fun e w' => e = .returned (.tuple #[.int .i64 r.1, .bool r.2.1]) ∧ Sep (fps [b7 g4390 g4392 a4400 a4401 a4402 a4403, b6 g4392 A4395 m4396 n4397 a4399, r5 A4395 m4396 n4397 l4394]) w [b7 g4390 g4392 a4400 a4401 a4402 a4403, b6 g4392 A4395 m4396 n4397 r.2.2.1, r5 A4395 m4396 n4397 r.2.2.2] w' := by
  generalize (fps [b7 g4390 g4392 a4400 a4401 a4402 a4403, b6 g4392 A4395 m4396 n4397 a4399, r5 A4395 m4396 n4397 l4394]) = FF at HS HGl0 ⊢
  obtain rfl := (row_len (HS.out.at2)).symm
  unfold count_change.f at H
  go_enter Tryd.func103, Tryd.ntmps103
  go_wp2_with fail
  obtain ⟨t4426, HA4427, H⟩ := bind_some H
  refine (obj_Is.calls l4394 a4399 a4400 a4401 a4402 a4403 a4404 g4390 g4392 A4395 l4394.length n4397 t4426 _ ⟨HGl0.out.pass HS.out⟩ ⟨HS.out.begin⟩ HA4427).mono ?_
  rintro e_ w4428 ⟨rfl, hS⟩
  replace HS : Aside0 (Sep FF w [b7 g4390 g4392 a4400 a4401 a4402 a4403, b6 g4392 A4395 l4394.length n4397 t4426.2, r5 A4395 l4394.length n4397 l4394] w4428) := ⟨HS.out.call hS⟩
  clear hS
  by_cases c4429 : t4426.1 = true
  · replace H := if_yes c4429 H
    have c4429b0 : t4426.1 = true := c4429
    have c4429b1 : (!t4426.1) = false := by rw [c4429b0]; rfl
    try rw [c4429b1]
    clear c4429
    go_wp2_with fail
    obtain ⟨t4430, HA4431, H⟩ := bind_some H
    refine (ground_Ground_Word.calls l4394 t4426.2 a4400 a4401 a4402 a4403 (wrap64 (a4404 - 1)) 3 g4390 g4392 A4395 l4394.length n4397 t4430 _ ⟨HGl0.out.pass HS.out⟩ ⟨HS.out.begin⟩ HA4431).mono ?_
    rintro e_ w4432 ⟨rfl, hS⟩
    replace HS : Aside0 (Sep FF w [b7 g4390 g4392 a4400 a4401 a4402 a4403, b6 g4392 A4395 l4394.length n4397 t4430.2, r5 A4395 l4394.length n4397 l4394] w4432) := ⟨HS.out.call hS⟩
    clear hS
    by_cases c4433 : (wrap64 (t4430.1)) = a4406
    · replace H := if_yes c4433 H
      have c4433b0 : ((wrap64 (t4430.1)) == a4406) = true := beq_iff_eq.mpr c4433
      have c4433b1 : ((wrap64 (t4430.1)) != a4406) = false := bne_eq_false_iff_eq.mpr c4433
      clear c4433
      go_wp2_with fail
      go_ret2
      rw [← some_eq H]
      exact ⟨(by first | rfl | (simp [IntKind.wrap_u32]; done)), HS.out⟩
    · replace H := if_no c4433 H
      have c4433b0 : ((wrap64 (t4430.1)) == a4406) = false := beq_eq_false_iff_ne.mpr c4433
      have c4433b1 : ((wrap64 (t4430.1)) != a4406) = true := bne_iff_ne.mpr c4433
      clear c4433
      go_wp2_with fail
      obtain ⟨t4434, HA4435, H⟩ := bind_some H
      refine (ground_Ground_SetWord.calls l4394 t4430.2 a4400 a4401 a4402 a4403 (wrap64 (a4404 - 1)) 3 ((wrap64 ((wrap64 (t4430.1)) + a4405)) % 4294967296) g4390 g4392 A4395 l4394.length n4397 t4434 _ ⟨HGl0.out.pass HS.out⟩ ⟨HS.out.begin⟩ HA4435).mono ?_
      rintro e_ w4436 ⟨rfl, hS⟩
      replace HS : Aside0 (Sep FF w [b7 g4390 g4392 a4400 a4401 a4402 a4403, b6 g4392 A4395 l4394.length n4397 t4434.2.1, r5 A4395 l4394.length n4397 t4434.2.2] w4436) := ⟨HS.out.call hS⟩
      clear hS
      go_wp2_with fail
      go_ret2
      rw [← some_eq H]
      exact ⟨(by first | rfl | (simp [IntKind.wrap_u32]; done)), HS.out⟩
  · replace H := if_no c4429 H
    have c4429b0 : t4426.1 = false := by simpa using c4429
    have c4429b1 : (!t4426.1) = true := by rw [c4429b0]; rfl
    try rw [c4429b1]
    clear c4429
    go_wp2_with fail
    go_ret2
    rw [← some_eq H]
    exact ⟨(by first | rfl | (simp [IntKind.wrap_u32]; done)), HS.out⟩

set_option maxHeartbeats 30000000 in
set_option maxRecDepth 100000 in
theorem count_Up.calls (l4378 : List Int) (a4383 : Int) (a4384 : Int) (a4385 : Int) (a4386 : Int) (a4387 : Int) (a4388 : Int) (g4374 : Nat) (g4376 : Nat) (A4379 : Option Addr) (m4380 : Nat) (n4381 : Nat) (r : Int × Bool × Int × List Int) (w : World)  (HGl0 : Aside0 (Gl 0 #[.int .i64 0, .int .i64 0, .int .i64 0, .int .i64 0, .int .i64 0] (fps [b7 g4374 g4376 a4384 a4385 a4386 a4387, b6 g4376 A4379 m4380 n4381 a4383, r5 A4379 m4380 n4381 l4378]) w)) (HS : Aside0 (Sep (fps [b7 g4374 g4376 a4384 a4385 a4386 a4387, b6 g4376 A4379 m4380 n4381 a4383, r5 A4379 m4380 n4381 l4378]) w [b7 g4374 g4376 a4384 a4385 a4386 a4387, b6 g4376 A4379 m4380 n4381 a4383, r5 A4379 m4380 n4381 l4378] w)) (H : Aside0 (count_Up.f l4378 a4383 a4384 a4385 a4386 a4387 a4388 = some r)) :
    Calls Tryd.prog 37 #[.pointer (some ⟨g4374, 0, none⟩), .int .i64 a4388] w fun e w' => e = .returned (.tuple #[.int .i64 r.1, .bool r.2.1]) ∧ Sep (fps [b7 g4374 g4376 a4384 a4385 a4386 a4387, b6 g4376 A4379 m4380 n4381 a4383, r5 A4379 m4380 n4381 l4378]) w [b7 g4374 g4376 a4384 a4385 a4386 a4387, b6 g4376 A4379 m4380 n4381 r.2.2.1, r5 A4379 m4380 n4381 r.2.2.2] w' := by
  generalize (fps [b7 g4374 g4376 a4384 a4385 a4386 a4387, b6 g4376 A4379 m4380 n4381 a4383, r5 A4379 m4380 n4381 l4378]) = FF at HS HGl0 ⊢
  obtain rfl := (row_len (HS.out.at2)).symm
  unfold count_Up.f at H
  go_enter Tryd.func37, Tryd.ntmps37
  go_wp2_with fail
  obtain ⟨t4440, HA4441, H⟩ := bind_some H
  refine (count_change.calls l4378 a4383 a4384 a4385 a4386 a4387 a4388 1 4294967295 g4374 g4376 A4379 l4378.length n4381 t4440 _ ⟨HGl0.out.pass HS.out⟩ ⟨HS.out.begin⟩ HA4441).mono ?_
  rintro e_ w4442 ⟨rfl, hS⟩
  replace HS : Aside0 (Sep FF w [b7 g4374 g4376 a4384 a4385 a4386 a4387, b6 g4376 A4379 l4378.length n4381 t4440.2.2.1, r5 A4379 l4378.length n4381 t4440.2.2.2] w4442) := ⟨HS.out.call hS⟩
  clear hS
  go_wp2_with fail
  go_ret2
  rw [← some_eq H]
  exact ⟨(by first | rfl | (simp [IntKind.wrap_u32]; done)), HS.out⟩

set_option maxHeartbeats 30000000 in
set_option maxRecDepth 100000 in
theorem ring_Take.calls (k : Nat) (l4503 : List Int) (a4508 : Int) (a4509 : Int) (a4510 : Int) (a4511 : Int) (a4512 : Int) (g4499 : Nat) (g4501 : Nat) (A4504 : Option Addr) (m4505 : Nat) (n4506 : Nat) (r : Int × Bool × Int × List Int) (w : World)  (HGl0 : Aside0 (Gl 0 #[.int .i64 0, .int .i64 0, .int .i64 0, .int .i64 0, .int .i64 0] (fps [b7 g4499 g4501 a4509 a4510 a4511 a4512, b6 g4501 A4504 m4505 n4506 a4508, r5 A4504 m4505 n4506 l4503]) w)) (HS : Aside0 (Sep (fps [b7 g4499 g4501 a4509 a4510 a4511 a4512, b6 g4501 A4504 m4505 n4506 a4508, r5 A4504 m4505 n4506 l4503]) w [b7 g4499 g4501 a4509 a4510 a4511 a4512, b6 g4501 A4504 m4505 n4506 a4508, r5 A4504 m4505 n4506 l4503] w)) (H : Aside0 (ring_Take.f k l4503 a4508 a4509 a4510 a4511 a4512 = some r)) :
    Calls Tryd.prog 25 #[.pointer (some ⟨g4499, 0, none⟩)] w fun e w' => e = .returned (.tuple #[.int .i64 r.1, .bool r.2.1]) ∧ Sep (fps [b7 g4499 g4501 a4509 a4510 a4511 a4512, b6 g4501 A4504 m4505 n4506 a4508, r5 A4504 m4505 n4506 l4503]) w [b7 g4499 g4501 a4509 a4510 a4511 a4512, b6 g4501 A4504 m4505 n4506 r.2.2.1, r5 A4504 m4505 n4506 r.2.2.2] w' := by
  generalize (fps [b7 g4499 g4501 a4509 a4510 a4511 a4512, b6 g4501 A4504 m4505 n4506 a4508, r5 A4504 m4505 n4506 l4503]) = FF at HS HGl0 ⊢
  obtain rfl := (row_len (HS.out.at2)).symm
  unfold ring_Take.f at H
  go_enter Tryd.func25, Tryd.ntmps25
  go_wp2_with fail
  obtain ⟨t4525, HA4526, H⟩ := bind_some H
  refine (ground_Ground_Reg.calls l4503 a4508 a4509 a4510 a4511 a4512 7 g4499 g4501 A4504 l4503.length n4506 t4525 _ ⟨HGl0.out.pass HS.out⟩ ⟨HS.out.begin⟩ HA4526).mono ?_
  rintro e_ w4527 ⟨rfl, hS⟩
  replace HS : Aside0 (Sep FF w [b7 g4499 g4501 a4509 a4510 a4511 a4512, b6 g4501 A4504 l4503.length n4506 t4525.2, r5 A4504 l4503.length n4506 l4503] w4527) := ⟨HS.out.call hS⟩
  clear hS
  by_cases c4528 : t4525.1 = 0
  · replace H := if_yes c4528 H
    have c4528b0 : (t4525.1 == 0) = true := beq_iff_eq.mpr c4528
    have c4528b1 : (t4525.1 != 0) = false := bne_eq_false_iff_eq.mpr c4528
    clear c4528
    go_wp2_with fail
    go_ret2
    rw [← some_eq H]
    exact ⟨(by first | rfl | (simp [IntKind.wrap_u32]; done)), HS.out⟩
  · replace H := if_no c4528 H
    have c4528b0 : (t4525.1 == 0) = false := beq_eq_false_iff_ne.mpr c4528
    have c4528b1 : (t4525.1 != 0) = true := bne_iff_ne.mpr c4528
    clear c4528
    go_wp2_with fail
    obtain ⟨t4529, HA4530, H⟩ := bind_some H
    refine (ring_Cut.calls _ l4503 t4525.2 a4509 a4510 a4511 a4512 (wrap64 (t4525.1 - 1)) g4499 g4501 A4504 l4503.length n4506 t4529 _ ⟨HGl0.out.pass HS.out⟩ ⟨HS.out.begin⟩ HA4530).mono ?_
    rintro e_ w4531 ⟨rfl, hS⟩
    replace HS : Aside0 (Sep FF w [b7 g4499 g4501 a4509 a4510 a4511 a4512, b6 g4501 A4504 l4503.length n4506 t4529.2.1, r5 A4504 l4503.length n4506 t4529.2.2] w4531) := ⟨HS.out.call hS⟩
    clear hS
    by_cases c4532 : t4529.1 = true
    · replace H := if_yes c4532 H
      have c4532b0 : t4529.1 = true := c4532
      have c4532b1 : (!t4529.1) = false := by rw [c4532b0]; rfl
      try rw [c4532b1]
      clear c4532
      go_wp2_with fail
      go_ret2
      rw [← some_eq H]
      exact ⟨(by first | rfl | (simp [IntKind.wrap_u32]; done)), HS.out⟩
    · replace H := if_no c4532 H
      have c4532b0 : t4529.1 = false := by simpa using c4532
      have c4532b1 : (!t4529.1) = true := by rw [c4532b0]; rfl
      try rw [c4532b1]
      clear c4532
      go_wp2_with fail
      go_ret2
      rw [← some_eq H]
      exact ⟨(by first | rfl | (simp [IntKind.wrap_u32]; done)), HS.out⟩

set_option maxHeartbeats 30000000 in
set_option maxRecDepth 100000 in
theorem count_Of.calls (l4582 : List Int) (a4587 : Int) (a4588 : Int) (a4589 : Int) (a4590 : Int) (a4591 : Int) (a4592 : Int) (g4578 : Nat) (g4580 : Nat) (A4583 : Option Addr) (m4584 : Nat) (n4585 : Nat) (r : Int × Int) (w : World)  (HGl0 : Aside0 (Gl 0 #[.int .i64 0, .int .i64 0, .int .i64 0, .int .i64 0, .int .i64 0] (fps [b7 g4578 g4580 a4588 a4589 a4590 a4591, b6 g4580 A4583 m4584 n4585 a4587, r5 A4583 m4584 n4585 l4582]) w)) (HS : Aside0 (Sep (fps [b7 g4578 g4580 a4588 a4589 a4590 a4591, b6 g4580 A4583 m4584 n4585 a4587, r5 A4583 m4584 n4585 l4582]) w [b7 g4578 g4580 a4588 a4589 a4590 a4591, b6 g4580 A4583 m4584 n4585 a4587, r5 A4583 m4584 n4585 l4582] w)) (H : Aside0 (count_Of.f l4582 a4587 a4588 a4589 a4590 a4591 a4592 = some r)) :
    Calls Tryd.prog 39 #[.pointer (some ⟨g4578, 0, none⟩), .int .i64 a4592] w fun e w' => e = .returned (.int .i64 r.1) ∧ Sep (fps [b7 g4578 g4580 a4588 a4589 a4590 a4591, b6 g4580 A4583 m4584 n4585 a4587, r5 A4583 m4584 n4585 l4582]) w [b7 g4578 g4580 a4588 a4589 a4590 a4591, b6 g4580 A4583 m4584 n4585 r.2, r5 A4583 m4584 n4585 l4582] w' := by
  generalize (fps [b7 g4578 g4580 a4588 a4589 a4590 a4591, b6 g4580 A4583 m4584 n4585 a4587, r5 A4583 m4584 n4585 l4582]) = FF at HS HGl0 ⊢
  obtain rfl := (row_len (HS.out.at2)).symm
  unfold count_Of.f at H
  go_enter Tryd.func39, Tryd.ntmps39
  go_wp2_with fail
  obtain ⟨t4600, HA4601, H⟩ := bind_some H
  refine (obj_Is.calls l4582 a4587 a4588 a4589 a4590 a4591 a4592 g4578 g4580 A4583 l4582.length n4585 t4600 _ ⟨HGl0.out.pass HS.out⟩ ⟨HS.out.begin⟩ HA4601).mono ?_
  rintro e_ w4602 ⟨rfl, hS⟩
  replace HS : Aside0 (Sep FF w [b7 g4578 g4580 a4588 a4589 a4590 a4591, b6 g4580 A4583 l4582.length n4585 t4600.2, r5 A4583 l4582.length n4585 l4582] w4602) := ⟨HS.out.call hS⟩
  clear hS
  by_cases c4603 : t4600.1 = true
  · replace H := if_yes c4603 H
    have c4603b0 : t4600.1 = true := c4603
    have c4603b1 : (!t4600.1) = false := by rw [c4603b0]; rfl
    try rw [c4603b1]
    clear c4603
    go_wp2_with fail
    obtain ⟨t4604, HA4605, H⟩ := bind_some H
    refine (ground_Ground_Word.calls l4582 t4600.2 a4588 a4589 a4590 a4591 (wrap64 (a4592 - 1)) 3 g4578 g4580 A4583 l4582.length n4585 t4604 _ ⟨HGl0.out.pass HS.out⟩ ⟨HS.out.begin⟩ HA4605).mono ?_
    rintro e_ w4606 ⟨rfl, hS⟩
    replace HS : Aside0 (Sep FF w [b7 g4578 g4580 a4588 a4589 a4590 a4591, b6 g4580 A4583 l4582.length n4585 t4604.2, r5 A4583 l4582.length n4585 l4582] w4606) := ⟨HS.out.call hS⟩
    clear hS
    go_wp2_with fail
    go_ret
    rw [← some_eq H]
    exact ⟨(by first | rfl | (simp [IntKind.wrap_u32]; done)), HS.out⟩
  · replace H := if_no c4603 H
    have c4603b0 : t4600.1 = false := by simpa using c4603
    have c4603b1 : (!t4600.1) = true := by rw [c4603b0]; rfl
    try rw [c4603b1]
    clear c4603
    go_wp2_with fail
    go_ret
    rw [← some_eq H]
    exact ⟨(by first | rfl | (simp [IntKind.wrap_u32]; done)), HS.out⟩

set_option maxHeartbeats 30000000 in
set_option maxRecDepth 100000 in
theorem quitrentref01_Ints.calls (k : Nat) (l4613 : List Int) (l4617 : List Int) (A4614 : Option Addr) (n4615 : Nat) (A4618 : Option Addr) (n4619 : Nat) (r : Bool) (w : World) (HR4616 : Aside0 (Rd (Kd.int .i64) (fps []) w A4614 l4613.length l4613)) (HR4620 : Aside0 (Rd (Kd.int .i64) (fps []) w A4618 l4617.length l4617)) (HGl0 : Aside0 (Gl 0 #[.int .i64 0, .int .i64 0, .int .i64 0, .int .i64 0, .int .i64 0] (fps []) w)) (HS : Aside0 (Sep (fps []) w [] w)) (H : Aside0 (quitrentref01_Ints.f k l4613 l4617 = some r)) :
    Calls Tryd.prog 32 #[.slice A4614 l4613.length n4615, .slice A4618 l4617.length n4619] w fun e w' => e = .returned (.bool r) ∧ Sep (fps []) w [] w' := by
  unfold quitrentref01_Ints.f at H
  go_enter Tryd.func32, Tryd.ntmps32
  by_cases c4621 : (l4613.length : Int) = (l4617.length : Int)
  · replace H := if_yes c4621 H
    have c4621b0 : ((l4613.length : Int) == (l4617.length : Int)) = true := beq_iff_eq.mpr c4621
    have c4621b1 : ((l4613.length : Int) != (l4617.length : Int)) = false := bne_eq_false_iff_eq.mpr c4621
    clear c4621
    go_wp2_with fail
    obtain ⟨o4637, AL4638, H⟩ := bind_some H
    go_loopg [5] k (fun kq v5 wc => ∃ (x4641 : Int), v5 = .int .i64 x4641 ∧ Aside0 (quitrentref01_Ints.lo0 kq l4613 l4617 x4641 = some o4637) ∧ Aside0 (Sep (fps []) w [] wc))
    case atStart => exact ⟨(0), (by first | rfl | (simp [IntKind.wrap_u32]; done)), AL4638, ⟨HS.out⟩⟩
    case round =>
      clear AL4638 HS
      obtain ⟨x4641, rfl, AL4638, HS⟩ := hrel
      obtain ⟨w4639, rfl⟩ : ∃ x : World, x = wr := ⟨_, rfl⟩
      cases gk with
      | zero => exact absurd AL4638.out (by simp [quitrentref01_Ints.lo0])
      | succ k4640 =>
        have AL0 := AL4638.out
        rw [quitrentref01_Ints.lo0] at AL0
        clear AL4638
        have AL4638 := Aside0.mk AL0
        clear AL0
        by_cases c4642 : x4641 < (l4613.length : Int)
        · replace AL4638 := if_yes c4642 AL4638
          have c4642b0 : decide (x4641 < (l4613.length : Int)) = true := decide_eq_true c4642
          clear c4642
          go_wp2_with fail
          refine start_ (n := 9) (S := (fun w' => Kd.C (Kd.int .i64) w' A4614 l4613.length l4613 ∧ Kd.C (Kd.int .i64) w' A4618 l4617.length l4617)) (ds := []) #[false, false, false, false, false, false, false, false, false] (by kernel_rfl) rfl rfl (⟨Rd.read (fun _ _ _ _ h => h) HR4616.out (HS.out.drew).fr, Rd.read (fun _ _ _ _ h => h) HR4620.out (HS.out.drew).fr⟩) (fun hHeld => ?_)
          have HS_ := Aside0.mk HS.out.drew
          clear HS
          generalize World.drew _ = w4644 at HS_ hHeld ⊢
          have HS := HS_
          clear HS_
          refine pure_ (i := 0) (N := some 17) (v := ?_) (a' := ?_) #[true, false, false, false, false, false, false, false, false] rfl rfl (by kernel_rfl) (fun _ _ _ h => h) (Or.inl ⟨by rfl, ?_⟩) ?_ ?_
          rotate_left
          · intro w'
            go_simp
            with_reducible rfl
          rotate_left
          · simp only [Act.put, List.setIfInBounds_toArray, List.set_cons_zero, List.set_cons_succ, i64_w, i32_w]
            rfl
          refine pure_ (i := 1) (N := some 18) (v := ?_) (a' := ?_) #[true, true, false, false, false, false, false, false, false] rfl rfl (by kernel_rfl) (fun _ _ _ h => h) (Or.inl ⟨by rfl, ?_⟩) ?_ ?_
          rotate_left
          · intro w'
            go_simp
            with_reducible rfl
          rotate_left
          · simp only [Act.put, List.setIfInBounds_toArray, List.set_cons_zero, List.set_cons_succ, i64_w, i32_w]
            rfl
          by_cases c4645 : 0 ≤ x4641
          · replace AL4638 := if_yes c4645 AL4638
            have c4645b0 : decide (0 ≤ x4641) = true := decide_eq_true c4645
            have c4645p : (0 ≤ x4641) = True := eq_true c4645
            clear c4645
            have ip4646 : (x4641 < (l4613.length : Int)) = True := eq_true (of_decide_eq_true c4642b0)
            obtain ⟨ad4647, ea, _⟩ := Kd.at_int (Rd.read (fun _ _ _ _ h => h) HR4616.out HS.out.fr) x4641 (of_decide_eq_true c4645b0) (of_decide_eq_true c4642b0)
            cases ea
            refine pure_ (i := 2) (N := some 19) (v := ?_) (a' := ?_) #[true, true, true, false, false, false, false, false, false] rfl rfl (by kernel_rfl) (fun _ _ _ h => h) (Or.inl ⟨by rfl, ?_⟩) ?_ ?_
            rotate_left
            · intro w'
              go_simp
              with_reducible rfl
            rotate_left
            · simp only [Act.put, List.setIfInBounds_toArray, List.set_cons_zero, List.set_cons_succ, i64_w, i32_w]
              rfl
            refine pure_ (i := 4) (N := some 21) (v := ?_) (a' := ?_) #[true, true, true, false, true, false, false, false, false] rfl rfl (by kernel_rfl) (fun _ _ _ h => h) (Or.inl ⟨by rfl, ?_⟩) ?_ ?_
            rotate_left
            · intro w'
              go_simp
              with_reducible rfl
            rotate_left
            · simp only [Act.put, List.setIfInBounds_toArray, List.set_cons_zero, List.set_cons_succ, i64_w, i32_w]
              rfl
            refine pure_ (i := 5) (N := some 22) (v := ?_) (a' := ?_) #[true, true, true, false, true, true, false, false, false] rfl rfl (by kernel_rfl) (fun _ _ _ h => h) (Or.inl ⟨by rfl, ?_⟩) ?_ ?_
            rotate_left
            · intro w'
              go_simp
              with_reducible rfl
            rotate_left
            · simp only [Act.put, List.setIfInBounds_toArray, List.set_cons_zero, List.set_cons_succ, i64_w, i32_w]
              rfl
            by_cases c4648 : x4641 < (l4617.length : Int)
            · replace AL4638 := if_yes c4648 AL4638
              have c4648b0 : decide (x4641 < (l4617.length : Int)) = true := decide_eq_true c4648
              have c4648p : (x4641 < (l4617.length : Int)) = True := eq_true c4648
              clear c4648
              obtain ⟨ad4649, ea, _⟩ := Kd.at_int (Rd.read (fun _ _ _ _ h => h) HR4620.out HS.out.fr) x4641 (of_decide_eq_true c4645b0) (of_decide_eq_true c4648b0)
              cases ea
              refine pure_ (i := 6) (N := some 23) (v := ?_) (a' := ?_) #[true, true, true, false, true, true, true, false, false] rfl rfl (by kernel_rfl) (fun _ _ _ h => h) (Or.inl ⟨by rfl, ?_⟩) ?_ ?_
              rotate_left
              · intro w'
                go_simp
                with_reducible rfl
              rotate_left
              · simp only [Act.put, List.setIfInBounds_toArray, List.set_cons_zero, List.set_cons_succ, i64_w, i32_w]
                rfl
              refine take_ (i := 3) (N := some 20) (v := ?_) (a' := ?_) #[true, true, true, true, true, true, true, false, false] rfl rfl (by kernel_rfl) (fun _ _ _ h => h) (Or.inl ⟨by rfl, ?_⟩) hHeld ?_ ?_
              rotate_left
              · rintro w' hS'
                obtain ⟨s0, s1⟩ := hS'
                have hx := C_at_int s0 x4641 (of_decide_eq_true c4645b0) (of_decide_eq_true c4642b0)
                go_simp
                with_reducible rfl
              rotate_left
              · simp only [Act.put, List.setIfInBounds_toArray, List.set_cons_zero, List.set_cons_succ, i64_w, i32_w]
                rfl
              refine take_ (i := 7) (N := some 24) (v := ?_) (a' := ?_) #[true, true, true, true, true, true, true, true, false] rfl rfl (by kernel_rfl) (fun _ _ _ h => h) (Or.inl ⟨by rfl, ?_⟩) hHeld ?_ ?_
              rotate_left
              · rintro w' hS'
                obtain ⟨s0, s1⟩ := hS'
                have hx := C_at_int s1 x4641 (of_decide_eq_true c4645b0) (of_decide_eq_true c4648b0)
                go_simp
                with_reducible rfl
              rotate_left
              · simp only [Act.put, List.setIfInBounds_toArray, List.set_cons_zero, List.set_cons_succ, i64_w, i32_w]
                rfl
              refine pure_ (i := 8) (N := some 25) (v := ?_) (a' := ?_) #[true, true, true, true, true, true, true, true, true] rfl rfl (by kernel_rfl) (fun _ _ _ h => h) (Or.inl ⟨by rfl, ?_⟩) ?_ ?_
              rotate_left
              · intro w'
                go_simp
                with_reducible rfl
              rotate_left
              · simp only [Act.put, List.setIfInBounds_toArray, List.set_cons_zero, List.set_cons_succ, i64_w, i32_w]
                rfl
              refine done_ (by kernel_rfl) ?_
              by_cases c4650 : (rd l4613 x4641) = (rd l4617 x4641)
              · replace AL4638 := if_yes c4650 AL4638
                have c4650b0 : ((rd l4613 x4641) == (rd l4617 x4641)) = true := beq_iff_eq.mpr c4650
                have c4650b1 : ((rd l4613 x4641) != (rd l4617 x4641)) = false := bne_eq_false_iff_eq.mpr c4650
                clear c4650
                go_wp2_with fail
                go_roundg k4640
                case measure => exact Nat.lt_succ_self _
                case rel => exact ⟨(wrap64 (x4641 + 1)), (by first | rfl | (simp [IntKind.wrap_u32]; done)), Aside0.mk AL4638.out, ⟨HS.out⟩⟩
              · replace AL4638 := if_no c4650 AL4638
                have c4650b0 : ((rd l4613 x4641) == (rd l4617 x4641)) = false := beq_eq_false_iff_ne.mpr c4650
                have c4650b1 : ((rd l4613 x4641) != (rd l4617 x4641)) = true := bne_iff_ne.mpr c4650
                clear c4650
                go_wp2_with fail
                have ho := some_eq AL4638
                subst ho
                have H := lp_ret H
                go_ret
                rw [← some_eq H]
                exact ⟨(by first | rfl | (simp [IntKind.wrap_u32]; done)), HS.out⟩
            · replace AL4638 := if_no c4648 AL4638
              have c4648b0 : decide (x4641 < (l4617.length : Int)) = false := decide_eq_false c4648
              clear c4648
              exact (none_no AL4638).elim
          · replace AL4638 := if_no c4645 AL4638
            have c4645b0 : decide (0 ≤ x4641) = false := decide_eq_false c4645
            clear c4645
            exact (none_no AL4638).elim
        · replace AL4638 := if_no c4642 AL4638
          have c4642b0 : decide (x4641 < (l4613.length : Int)) = false := decide_eq_false c4642
          clear c4642
          have ho := some_eq AL4638
          subst ho
          clear AL4638
          have H := lp_out H
          go_wp2_with fail
          go_ret
          rw [← some_eq H]
          exact ⟨(by first | rfl | (simp [IntKind.wrap_u32]; done)), HS.out⟩
  · replace H := if_no c4621 H
    have c4621b0 : ((l4613.length : Int) == (l4617.length : Int)) = false := beq_eq_false_iff_ne.mpr c4621
    have c4621b1 : ((l4613.length : Int) != (l4617.length : Int)) = true := bne_iff_ne.mpr c4621
    clear c4621
    go_wp2_with fail
    go_ret
    rw [← some_eq H]
    exact ⟨(by first | rfl | (simp [IntKind.wrap_u32]; done)), HS.out⟩

set_option maxHeartbeats 30000000 in
set_option maxRecDepth 100000 in
theorem quitrentref01_Same.calls (k : Nat) (l4656 : List Int) (l4660 : List Int) (A4657 : Option Addr) (n4658 : Nat) (A4661 : Option Addr) (n4662 : Nat) (r : Bool) (w : World) (HR4659 : Aside0 (Rd (Kd.int .u32) (fps []) w A4657 l4656.length l4656)) (HR4663 : Aside0 (Rd (Kd.int .u32) (fps []) w A4661 l4660.length l4660)) (HGl0 : Aside0 (Gl 0 #[.int .i64 0, .int .i64 0, .int .i64 0, .int .i64 0, .int .i64 0] (fps []) w)) (HS : Aside0 (Sep (fps []) w [] w)) (H : Aside0 (quitrentref01_Same.f k l4656 l4660 = some r)) :
    Calls Tryd.prog 40 #[.slice A4657 l4656.length n4658, .slice A4661 l4660.length n4662] w fun e w' => e = .returned (.bool r) ∧ Sep (fps []) w [] w' := by
  unfold quitrentref01_Same.f at H
  go_enter Tryd.func40, Tryd.ntmps40
  by_cases c4664 : (l4656.length : Int) = (l4660.length : Int)
  · replace H := if_yes c4664 H
    have c4664b0 : ((l4656.length : Int) == (l4660.length : Int)) = true := beq_iff_eq.mpr c4664
    have c4664b1 : ((l4656.length : Int) != (l4660.length : Int)) = false := bne_eq_false_iff_eq.mpr c4664
    clear c4664
    go_wp2_with fail
    obtain ⟨o4680, AL4681, H⟩ := bind_some H
    go_loopg [5] k (fun kq v5 wc => ∃ (x4684 : Int), v5 = .int .i64 x4684 ∧ Aside0 (quitrentref01_Same.lo0 kq l4656 l4660 x4684 = some o4680) ∧ Aside0 (Sep (fps []) w [] wc))
    case atStart => exact ⟨(0), (by first | rfl | (simp [IntKind.wrap_u32]; done)), AL4681, ⟨HS.out⟩⟩
    case round =>
      clear AL4681 HS
      obtain ⟨x4684, rfl, AL4681, HS⟩ := hrel
      obtain ⟨w4682, rfl⟩ : ∃ x : World, x = wr := ⟨_, rfl⟩
      cases gk with
      | zero => exact absurd AL4681.out (by simp [quitrentref01_Same.lo0])
      | succ k4683 =>
        have AL0 := AL4681.out
        rw [quitrentref01_Same.lo0] at AL0
        clear AL4681
        have AL4681 := Aside0.mk AL0
        clear AL0
        by_cases c4685 : x4684 < (l4656.length : Int)
        · replace AL4681 := if_yes c4685 AL4681
          have c4685b0 : decide (x4684 < (l4656.length : Int)) = true := decide_eq_true c4685
          clear c4685
          go_wp2_with fail
          refine start_ (n := 9) (S := (fun w' => Kd.C (Kd.int .u32) w' A4657 l4656.length l4656 ∧ Kd.C (Kd.int .u32) w' A4661 l4660.length l4660)) (ds := []) #[false, false, false, false, false, false, false, false, false] (by kernel_rfl) rfl rfl (⟨Rd.read (fun _ _ _ _ h => h) HR4659.out (HS.out.drew).fr, Rd.read (fun _ _ _ _ h => h) HR4663.out (HS.out.drew).fr⟩) (fun hHeld => ?_)
          have HS_ := Aside0.mk HS.out.drew
          clear HS
          generalize World.drew _ = w4687 at HS_ hHeld ⊢
          have HS := HS_
          clear HS_
          refine pure_ (i := 0) (N := some 17) (v := ?_) (a' := ?_) #[true, false, false, false, false, false, false, false, false] rfl rfl (by kernel_rfl) (fun _ _ _ h => h) (Or.inl ⟨by rfl, ?_⟩) ?_ ?_
          rotate_left
          · intro w'
            go_simp
            with_reducible rfl
          rotate_left
          · simp only [Act.put, List.setIfInBounds_toArray, List.set_cons_zero, List.set_cons_succ, i64_w, i32_w]
            rfl
          refine pure_ (i := 1) (N := some 18) (v := ?_) (a' := ?_) #[true, true, false, false, false, false, false, false, false] rfl rfl (by kernel_rfl) (fun _ _ _ h => h) (Or.inl ⟨by rfl, ?_⟩) ?_ ?_
          rotate_left
          · intro w'
            go_simp
            with_reducible rfl
          rotate_left
          · simp only [Act.put, List.setIfInBounds_toArray, List.set_cons_zero, List.set_cons_succ, i64_w, i32_w]
            rfl
          by_cases c4688 : 0 ≤ x4684
          · replace AL4681 := if_yes c4688 AL4681
            have c4688b0 : decide (0 ≤ x4684) = true := decide_eq_true c4688
            have c4688p : (0 ≤ x4684) = True := eq_true c4688
            clear c4688
            have ip4689 : (x4684 < (l4656.length : Int)) = True := eq_true (of_decide_eq_true c4685b0)
            obtain ⟨ad4690, ea, _⟩ := Kd.at_int (Rd.read (fun _ _ _ _ h => h) HR4659.out HS.out.fr) x4684 (of_decide_eq_true c4688b0) (of_decide_eq_true c4685b0)
            cases ea
            refine pure_ (i := 2) (N := some 19) (v := ?_) (a' := ?_) #[true, true, true, false, false, false, false, false, false] rfl rfl (by kernel_rfl) (fun _ _ _ h => h) (Or.inl ⟨by rfl, ?_⟩) ?_ ?_
            rotate_left
            · intro w'
              go_simp
              with_reducible rfl
            rotate_left
            · simp only [Act.put, List.setIfInBounds_toArray, List.set_cons_zero, List.set_cons_succ, i64_w, i32_w]
              rfl
            refine pure_ (i := 4) (N := some 21) (v := ?_) (a' := ?_) #[true, true, true, false, true, false, false, false, false] rfl rfl (by kernel_rfl) (fun _ _ _ h => h) (Or.inl ⟨by rfl, ?_⟩) ?_ ?_
            rotate_left
            · intro w'
              go_simp
              with_reducible rfl
            rotate_left
            · simp only [Act.put, List.setIfInBounds_toArray, List.set_cons_zero, List.set_cons_succ, i64_w, i32_w]
              rfl
            refine pure_ (i := 5) (N := some 22) (v := ?_) (a' := ?_) #[true, true, true, false, true, true, false, false, false] rfl rfl (by kernel_rfl) (fun _ _ _ h => h) (Or.inl ⟨by rfl, ?_⟩) ?_ ?_
            rotate_left
            · intro w'
              go_simp
              with_reducible rfl
            rotate_left
            · simp only [Act.put, List.setIfInBounds_toArray, List.set_cons_zero, List.set_cons_succ, i64_w, i32_w]
              rfl
            by_cases c4691 : x4684 < (l4660.length : Int)
            · replace AL4681 := if_yes c4691 AL4681
              have c4691b0 : decide (x4684 < (l4660.length : Int)) = true := decide_eq_true c4691
              have c4691p : (x4684 < (l4660.length : Int)) = True := eq_true c4691
              clear c4691
              obtain ⟨ad4692, ea, _⟩ := Kd.at_int (Rd.read (fun _ _ _ _ h => h) HR4663.out HS.out.fr) x4684 (of_decide_eq_true c4688b0) (of_decide_eq_true c4691b0)
              cases ea
              refine pure_ (i := 6) (N := some 23) (v := ?_) (a' := ?_) #[true, true, true, false, true, true, true, false, false] rfl rfl (by kernel_rfl) (fun _ _ _ h => h) (Or.inl ⟨by rfl, ?_⟩) ?_ ?_
              rotate_left
              · intro w'
                go_simp
                with_reducible rfl
              rotate_left
              · simp only [Act.put, List.setIfInBounds_toArray, List.set_cons_zero, List.set_cons_succ, i64_w, i32_w]
                rfl
              refine take_ (i := 3) (N := some 20) (v := ?_) (a' := ?_) #[true, true, true, true, true, true, true, false, false] rfl rfl (by kernel_rfl) (fun _ _ _ h => h) (Or.inl ⟨by rfl, ?_⟩) hHeld ?_ ?_
              rotate_left
              · rintro w' hS'
                obtain ⟨s0, s1⟩ := hS'
                have hx := C_at_int s0 x4684 (of_decide_eq_true c4688b0) (of_decide_eq_true c4685b0)
                go_simp
                with_reducible rfl
              rotate_left
              · simp only [Act.put, List.setIfInBounds_toArray, List.set_cons_zero, List.set_cons_succ, i64_w, i32_w]
                rfl
              refine take_ (i := 7) (N := some 24) (v := ?_) (a' := ?_) #[true, true, true, true, true, true, true, true, false] rfl rfl (by kernel_rfl) (fun _ _ _ h => h) (Or.inl ⟨by rfl, ?_⟩) hHeld ?_ ?_
              rotate_left
              · rintro w' hS'
                obtain ⟨s0, s1⟩ := hS'
                have hx := C_at_int s1 x4684 (of_decide_eq_true c4688b0) (of_decide_eq_true c4691b0)
                go_simp
                with_reducible rfl
              rotate_left
              · simp only [Act.put, List.setIfInBounds_toArray, List.set_cons_zero, List.set_cons_succ, i64_w, i32_w]
                rfl
              refine pure_ (i := 8) (N := some 25) (v := ?_) (a' := ?_) #[true, true, true, true, true, true, true, true, true] rfl rfl (by kernel_rfl) (fun _ _ _ h => h) (Or.inl ⟨by rfl, ?_⟩) ?_ ?_
              rotate_left
              · intro w'
                go_simp
                with_reducible rfl
              rotate_left
              · simp only [Act.put, List.setIfInBounds_toArray, List.set_cons_zero, List.set_cons_succ, i64_w, i32_w]
                rfl
              refine done_ (by kernel_rfl) ?_
              by_cases c4693 : (rd l4656 x4684) = (rd l4660 x4684)
              · replace AL4681 := if_yes c4693 AL4681
                have c4693b0 : ((rd l4656 x4684) == (rd l4660 x4684)) = true := beq_iff_eq.mpr c4693
                have c4693b1 : ((rd l4656 x4684) != (rd l4660 x4684)) = false := bne_eq_false_iff_eq.mpr c4693
                clear c4693
                go_wp2_with fail
                go_roundg k4683
                case measure => exact Nat.lt_succ_self _
                case rel => exact ⟨(wrap64 (x4684 + 1)), (by first | rfl | (simp [IntKind.wrap_u32]; done)), Aside0.mk AL4681.out, ⟨HS.out⟩⟩
              · replace AL4681 := if_no c4693 AL4681
                have c4693b0 : ((rd l4656 x4684) == (rd l4660 x4684)) = false := beq_eq_false_iff_ne.mpr c4693
                have c4693b1 : ((rd l4656 x4684) != (rd l4660 x4684)) = true := bne_iff_ne.mpr c4693
                clear c4693
                go_wp2_with fail
                have ho := some_eq AL4681
                subst ho
                have H := lp_ret H
                go_ret
                rw [← some_eq H]
                exact ⟨(by first | rfl | (simp [IntKind.wrap_u32]; done)), HS.out⟩
            · replace AL4681 := if_no c4691 AL4681
              have c4691b0 : decide (x4684 < (l4660.length : Int)) = false := decide_eq_false c4691
              clear c4691
              exact (none_no AL4681).elim
          · replace AL4681 := if_no c4688 AL4681
            have c4688b0 : decide (0 ≤ x4684) = false := decide_eq_false c4688
            clear c4688
            exact (none_no AL4681).elim
        · replace AL4681 := if_no c4685 AL4681
          have c4685b0 : decide (x4684 < (l4656.length : Int)) = false := decide_eq_false c4685
          clear c4685
          have ho := some_eq AL4681
          subst ho
          clear AL4681
          have H := lp_out H
          go_wp2_with fail
          go_ret
          rw [← some_eq H]
          exact ⟨(by first | rfl | (simp [IntKind.wrap_u32]; done)), HS.out⟩
  · replace H := if_no c4664 H
    have c4664b0 : ((l4656.length : Int) == (l4660.length : Int)) = false := beq_eq_false_iff_ne.mpr c4664
    have c4664b1 : ((l4656.length : Int) != (l4660.length : Int)) = true := bne_iff_ne.mpr c4664
    clear c4664
    go_wp2_with fail
    go_ret
    rw [← some_eq H]
    exact ⟨(by first | rfl | (simp [IntKind.wrap_u32]; done)), HS.out⟩
end Go.Proofs.YtobeonkddamnoaaDoor.C

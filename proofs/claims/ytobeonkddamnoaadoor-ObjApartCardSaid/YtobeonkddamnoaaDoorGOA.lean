/- Each function of the group OA does what its plain function says, and changes nothing that was there; proved by walking its code. No condition. -/
import Derived.Test.YtobeonkddamnoaaDoorQw
import Derived.Test.YtobeonkddamnoaaDoorMOA
import Derived.Test.YtobeonkddamnoaaDoorGOA0
import Derived.Test.YtobeonkddamnoaaDoorGOA1
import Derived.Test.YtobeonkddamnoaaDoorGOA2
namespace Go.Proofs.YtobeonkddamnoaaDoor.C
open Go.RowKit Go.Proofs.YtobeonkddamnoaaDoorW.PrintWords Go.Proofs.YtobeonkddamnoaaDoorW.PrintLast Go.Proofs.YtobeonkddamnoaaDoor.Q Go.Proofs.YtobeonkddamnoaaDoor.M
set_option linter.unusedVariables false
set_option linter.unusedSimpArgs false
set_option maxHeartbeats 30000000 in
set_option maxRecDepth 100000 in
theorem obj_Shed.calls (k : Nat) (l3807 : List Int) (a3812 : Int) (a3813 : Int) (a3814 : Int) (a3815 : Int) (a3816 : Int) (a3817 : Int) (a3818 : Int) (g3803 : Nat) (g3805 : Nat) (A3808 : Option Addr) (m3809 : Nat) (n3810 : Nat) (r : Bool × Int × List Int) (w : World)  (HGl0 : Aside0 (Gl 0 #[.int .i64 0, .int .i64 0, .int .i64 0, .int .i64 0, .int .i64 0] (fps [b8 g3803 g3805 a3813 a3814 a3815 a3816, b7 g3805 A3808 m3809 n3810 a3812, r6 A3808 m3809 n3810 l3807]) w)) (HS : Aside0 (Sep (fps [b8 g3803 g3805 a3813 a3814 a3815 a3816, b7 g3805 A3808 m3809 n3810 a3812, r6 A3808 m3809 n3810 l3807]) w [b8 g3803 g3805 a3813 a3814 a3815 a3816, b7 g3805 A3808 m3809 n3810 a3812, r6 A3808 m3809 n3810 l3807] w)) (H : Aside0 (obj_Shed.f k l3807 a3812 a3813 a3814 a3815 a3816 a3817 a3818 = some r)) :
    Calls Tryd.prog 46 #[.pointer (some ⟨g3803, 0, none⟩), .int .i64 a3817, .int .i64 a3818] w fun e w' => e = .returned (.bool r.1) ∧ Sep (fps [b8 g3803 g3805 a3813 a3814 a3815 a3816, b7 g3805 A3808 m3809 n3810 a3812, r6 A3808 m3809 n3810 l3807]) w [b8 g3803 g3805 a3813 a3814 a3815 a3816, b7 g3805 A3808 m3809 n3810 r.2.1, r6 A3808 m3809 n3810 r.2.2] w' := by
  generalize (fps [b8 g3803 g3805 a3813 a3814 a3815 a3816, b7 g3805 A3808 m3809 n3810 a3812, r6 A3808 m3809 n3810 l3807]) = FF at HS HGl0 ⊢
  obtain rfl := (row_len (HS.out.at2)).symm
  unfold obj_Shed.f at H
  go_enter Tryd.func46, Tryd.ntmps46
  by_cases c4089 : a3818 < 0
  · replace H := if_yes c4089 H
    have c4089b0 : decide (a3818 < 0) = true := decide_eq_true c4089
    clear c4089
    go_wp2_with fail
    go_ret
    rw [← some_eq H]
    exact ⟨(by first | rfl | (simp [IntKind.wrap_u32]; done)), HS.out⟩
  · replace H := if_no c4089 H
    have c4089b0 : decide (a3818 < 0) = false := decide_eq_false c4089
    clear c4089
    go_wp2_with fail
    obtain ⟨t4090, HA4091, H⟩ := bind_some H
    refine (obj_Blocks.calls _ l3807 a3812 a3813 a3814 a3815 a3816 a3817 g3803 g3805 A3808 l3807.length n3810 t4090 _ ⟨HGl0.out.pass HS.out⟩ ⟨HS.out.begin⟩ HA4091).mono ?_
    rintro e_ w4092 ⟨rfl, hS⟩
    replace HS : Aside0 (Sep FF w [b8 g3803 g3805 a3813 a3814 a3815 a3816, b7 g3805 A3808 l3807.length n3810 t4090.2, r6 A3808 l3807.length n3810 l3807] w4092) := ⟨HS.out.call hS⟩
    clear hS
    by_cases c4093 : a3818 ≥ (wrap64 (t4090.1 - 1))
    · replace H := if_yes c4093 H
      have c4093b0 : decide ((wrap64 (t4090.1 - 1)) ≤ a3818) = true := decide_eq_true c4093
      clear c4093
      go_wp2_with fail
      go_ret
      rw [← some_eq H]
      exact ⟨(by first | rfl | (simp [IntKind.wrap_u32]; done)), HS.out⟩
    · replace H := if_no c4093 H
      have c4093b0 : decide ((wrap64 (t4090.1 - 1)) ≤ a3818) = false := decide_eq_false c4093
      clear c4093
      go_wp2_with fail
      obtain ⟨t4094, HA4095, H⟩ := bind_some H
      refine (ground_Ground_Word.calls l3807 t4090.2 a3813 a3814 a3815 a3816 (wrap64 (a3817 - 1)) (wrap64 (8 + a3818)) g3803 g3805 A3808 l3807.length n3810 t4094 _ ⟨HGl0.out.pass HS.out⟩ ⟨HS.out.begin⟩ HA4095).mono ?_
      rintro e_ w4096 ⟨rfl, hS⟩
      replace HS : Aside0 (Sep FF w [b8 g3803 g3805 a3813 a3814 a3815 a3816, b7 g3805 A3808 l3807.length n3810 t4094.2, r6 A3808 l3807.length n3810 l3807] w4096) := ⟨HS.out.call hS⟩
      clear hS
      by_cases c4097 : (wrap64 (t4094.1)) = 0
      · replace H := if_yes c4097 H
        have c4097b0 : ((wrap64 (t4094.1)) == 0) = true := beq_iff_eq.mpr c4097
        have c4097b1 : ((wrap64 (t4094.1)) != 0) = false := bne_eq_false_iff_eq.mpr c4097
        clear c4097
        go_wp2_with fail
        go_ret
        rw [← some_eq H]
        exact ⟨(by first | rfl | (simp [IntKind.wrap_u32]; done)), HS.out⟩
      · replace H := if_no c4097 H
        have c4097b0 : ((wrap64 (t4094.1)) == 0) = false := beq_eq_false_iff_ne.mpr c4097
        have c4097b1 : ((wrap64 (t4094.1)) != 0) = true := bne_iff_ne.mpr c4097
        clear c4097
        go_wp2_with fail
        obtain ⟨t4098, HA4099, H⟩ := bind_some H
        refine (ground_Ground_SetWord.calls l3807 t4094.2 a3813 a3814 a3815 a3816 (wrap64 (a3817 - 1)) (wrap64 (8 + a3818)) 0 g3803 g3805 A3808 l3807.length n3810 t4098 _ ⟨HGl0.out.pass HS.out⟩ ⟨HS.out.begin⟩ HA4099).mono ?_
        rintro e_ w4100 ⟨rfl, hS⟩
        replace HS : Aside0 (Sep FF w [b8 g3803 g3805 a3813 a3814 a3815 a3816, b7 g3805 A3808 l3807.length n3810 t4098.2.1, r6 A3808 l3807.length n3810 t4098.2.2] w4100) := ⟨HS.out.call hS⟩
        clear hS
        go_wp2_with fail
        obtain ⟨t4101, HA4102, H⟩ := bind_some H
        refine (pool_Give.calls t4098.2.2 t4098.2.1 a3813 a3814 a3815 a3816 (wrap64 ((wrap64 (t4094.1)) - 1)) g3803 g3805 A3808 l3807.length n3810 t4101 _ ⟨HGl0.out.pass HS.out⟩ ⟨HS.out.begin⟩ HA4102).mono ?_
        rintro e_ w4103 ⟨rfl, hS⟩
        replace HS : Aside0 (Sep FF w [b8 g3803 g3805 a3813 a3814 a3815 a3816, b7 g3805 A3808 l3807.length n3810 t4101.2.1, r6 A3808 l3807.length n3810 t4101.2.2] w4103) := ⟨HS.out.call hS⟩
        clear hS
        go_wp2_with fail
        go_ret
        rw [← some_eq H]
        exact ⟨(by first | rfl | (simp [IntKind.wrap_u32]; done)), HS.out⟩

set_option maxHeartbeats 30000000 in
set_option maxRecDepth 100000 in
theorem ground_Ground_SeeReg.calls (l4163 : List Int) (a4168 : Int) (a4169 : Int) (a4170 : Int) (a4171 : Int) (a4172 : Int) (a4173 : Int) (g4159 : Nat) (g4161 : Nat) (A4164 : Option Addr) (m4165 : Nat) (n4166 : Nat) (r : Int) (w : World)  (HGl0 : Aside0 (Gl 0 #[.int .i64 0, .int .i64 0, .int .i64 0, .int .i64 0, .int .i64 0] (fps [b8 g4159 g4161 a4169 a4170 a4171 a4172, b7 g4161 A4164 m4165 n4166 a4168, r6 A4164 m4165 n4166 l4163]) w)) (HS : Aside0 (Sep (fps [b8 g4159 g4161 a4169 a4170 a4171 a4172, b7 g4161 A4164 m4165 n4166 a4168, r6 A4164 m4165 n4166 l4163]) w [b8 g4159 g4161 a4169 a4170 a4171 a4172, b7 g4161 A4164 m4165 n4166 a4168, r6 A4164 m4165 n4166 l4163] w)) (H : Aside0 (ground_Ground_SeeReg.f l4163 a4168 a4169 a4170 a4171 a4172 a4173 = some r)) :
    Calls Tryd.prog 85 #[.pointer (some ⟨g4159, 0, none⟩), .int .i64 a4173] w fun e w' => e = .returned (.int .i64 r) ∧ Sep (fps [b8 g4159 g4161 a4169 a4170 a4171 a4172, b7 g4161 A4164 m4165 n4166 a4168, r6 A4164 m4165 n4166 l4163]) w [b8 g4159 g4161 a4169 a4170 a4171 a4172, b7 g4161 A4164 m4165 n4166 a4168, r6 A4164 m4165 n4166 l4163] w' := by
  generalize (fps [b8 g4159 g4161 a4169 a4170 a4171 a4172, b7 g4161 A4164 m4165 n4166 a4168, r6 A4164 m4165 n4166 l4163]) = FF at HS HGl0 ⊢
  obtain rfl := (row_len (HS.out.at2)).symm
  unfold ground_Ground_SeeReg.f at H
  go_enter Tryd.func85, Tryd.ntmps85
  go_wp2_with fail
  obtain ⟨t4174, HA4175, H⟩ := bind_some H
  refine (ground_Ground_all.calls l4163 a4168 a4169 a4170 a4171 a4172 g4159 g4161 A4164 l4163.length n4166 t4174 _ ⟨HGl0.out.pass HS.out⟩ ⟨HS.out.begin⟩ HA4175).mono ?_
  rintro e_ w4176 ⟨rfl, hS⟩
  replace HS : Aside0 (Sep FF w [b8 g4159 g4161 a4169 a4170 a4171 a4172, b7 g4161 A4164 l4163.length n4166 a4168, r6 A4164 l4163.length n4166 l4163] w4176) := ⟨HS.out.call hS⟩
  clear hS
  go_wp2_with fail
  obtain ⟨t4177, HA4178, H⟩ := bind_some H
  refine (ground_reg.calls a4173 t4177 _ ⟨HGl0.out.pass (l := []) HS.out⟩ ⟨Sep.start _⟩ HA4178).mono ?_
  rintro e_ w4179 ⟨rfl, hS⟩
  replace HS : Aside0 (Sep FF w [b8 g4159 g4161 a4169 a4170 a4171 a4172, b7 g4161 A4164 l4163.length n4166 a4168, r6 A4164 l4163.length n4166 l4163] w4179) := ⟨HS.out.call hS⟩
  clear hS
  go_wp2_with fail
  replace HS : Aside0 (Sep FF w [r6 A4164 l4163.length n4166 l4163, b8 g4159 g4161 a4169 a4170 a4171 a4172, b7 g4161 A4164 l4163.length n4166 a4168] w4179) := ⟨HS.out.front 2 (by simp)⟩
  replace HS : Aside0 (Sep FF w [b7 g4161 A4164 l4163.length n4166 a4168, r6 A4164 l4163.length n4166 l4163, b8 g4159 g4161 a4169 a4170 a4171 a4172] w4179) := ⟨HS.out.front 2 (by simp)⟩
  obtain ⟨t4180, HA4181, H⟩ := bind_some H
  refine (store_Store_Peek.calls l4163 a4168 t4177 g4161 A4164 l4163.length n4166 t4180 _ ⟨HGl0.out.pass HS.out⟩ ⟨HS.out.begin⟩ HA4181).mono ?_
  rintro e_ w4182 ⟨rfl, hS⟩
  replace HS : Aside0 (Sep FF w [b7 g4161 A4164 l4163.length n4166 a4168, r6 A4164 l4163.length n4166 l4163, b8 g4159 g4161 a4169 a4170 a4171 a4172] w4182) := ⟨HS.out.call hS⟩
  clear hS
  go_wp2_with fail
  go_ret
  rw [← some_eq H]
  exact ⟨(by first | rfl | (simp [IntKind.wrap_u32]; done)), ((((HS.out).front 1 (by simp)).front 1 (by simp)).front 2 (by simp)).keep (l := [b8 g4159 g4161 a4169 a4170 a4171 a4172, b7 g4161 A4164 l4163.length n4166 a4168, r6 A4164 l4163.length n4166 l4163]) (rest := [])⟩

set_option maxHeartbeats 30000000 in
set_option maxRecDepth 100000 in
theorem chain_List.calls (k : Nat) (l4132 : List Int) (a4137 : Int) (a4138 : Int) (a4139 : Int) (a4140 : Int) (a4141 : Int) (a4142 : Int) (g4128 : Nat) (g4130 : Nat) (A4133 : Option Addr) (m4134 : Nat) (n4135 : Nat) (r : List Int) (w : World)  (HGl0 : Aside0 (Gl 0 #[.int .i64 0, .int .i64 0, .int .i64 0, .int .i64 0, .int .i64 0] (fps [b8 g4128 g4130 a4138 a4139 a4140 a4141, b7 g4130 A4133 m4134 n4135 a4137, r6 A4133 m4134 n4135 l4132]) w)) (HS : Aside0 (Sep (fps [b8 g4128 g4130 a4138 a4139 a4140 a4141, b7 g4130 A4133 m4134 n4135 a4137, r6 A4133 m4134 n4135 l4132]) w [b8 g4128 g4130 a4138 a4139 a4140 a4141, b7 g4130 A4133 m4134 n4135 a4137, r6 A4133 m4134 n4135 l4132] w)) (H : Aside0 (chain_List.f k l4132 a4137 a4138 a4139 a4140 a4141 a4142 = some r)) :
    Calls Tryd.prog 138 #[.pointer (some ⟨g4128, 0, none⟩), .int .i64 a4142] w fun e w' => ∃ (A4245 : Option Addr) (m4246 : Nat) (n4247 : Nat), e = .returned (.slice A4245 m4246 n4247) ∧ Sep (fps [b8 g4128 g4130 a4138 a4139 a4140 a4141, b7 g4130 A4133 m4134 n4135 a4137, r6 A4133 m4134 n4135 l4132]) w [b8 g4128 g4130 a4138 a4139 a4140 a4141, b7 g4130 A4133 m4134 n4135 a4137, r6 A4133 m4134 n4135 l4132, r18 A4245 m4246 n4247 r] w' := by
  generalize (fps [b8 g4128 g4130 a4138 a4139 a4140 a4141, b7 g4130 A4133 m4134 n4135 a4137, r6 A4133 m4134 n4135 l4132]) = FF at HS HGl0 ⊢
  obtain rfl := (row_len (HS.out.at2)).symm
  unfold chain_List.f at H
  go_enter Tryd.func138, Tryd.ntmps138
  go_wp2_with fail
  obtain ⟨t4143, HA4144, H⟩ := bind_some H
  refine (chain_of.calls l4132 a4137 a4138 a4139 a4140 a4141 a4142 g4128 g4130 A4133 l4132.length n4135 t4143 _ ⟨HGl0.out.pass HS.out⟩ ⟨HS.out.begin⟩ HA4144).mono ?_
  rintro e_ w4145 ⟨rfl, hS⟩
  replace HS : Aside0 (Sep FF w [b8 g4128 g4130 a4138 a4139 a4140 a4141, b7 g4130 A4133 l4132.length n4135 a4137, r6 A4133 l4132.length n4135 l4132] w4145) := ⟨HS.out.call hS⟩
  clear hS
  by_cases c4156 : t4143.2.2.2 = true
  · replace H := if_yes c4156 H
    have c4156b0 : t4143.2.2.2 = true := c4156
    have c4156b1 : (!t4143.2.2.2) = false := by rw [c4156b0]; rfl
    try rw [c4156b1]
    clear c4156
    go_wp2_with (first | ((with_reducible refine gate_dst (N := 5) rfl ?_); refine box_on ?hg (N := 5) ?hd (cs := #[.int .i64 0, .int .i64 0, .int .i64 0]) (t := 166) ?hr ?_; (case hd => rfl); (case hg => rfl); (case hr => first | (go_simp; done) | (go_simp; rfl)); intro g4146 hg w4147 hbox hb; replace HS : Aside0 (Sep FF w [b8 g4128 g4130 a4138 a4139 a4140 a4141, b7 g4130 A4133 l4132.length n4135 a4137, r6 A4133 l4132.length n4135 l4132, b9 g4146 0 0 0] w4147) := ⟨HS.out.box hg hbox hb⟩; clear hg hbox hb; have hc4149 : w4147.cell? ⟨g4146, 0, none⟩ = some (.int .i64 0) := blk_cellv (HS.out.at3) 0 rfl; have hz4150 : w4147.frozen? ⟨g4146, 0, none⟩ = false := blk_fz (HS.out.at3) 0; have hc4151 : w4147.cell? ⟨g4146, 1, none⟩ = some (.int .i64 0) := blk_cellv (HS.out.at3) 1 rfl; have hz4152 : w4147.frozen? ⟨g4146, 1, none⟩ = false := blk_fz (HS.out.at3) 1; have hc4153 : w4147.cell? ⟨g4146, 2, none⟩ = some (.int .i64 0) := blk_cellv (HS.out.at3) 2 rfl; have hz4154 : w4147.frozen? ⟨g4146, 2, none⟩ = false := blk_fz (HS.out.at3) 2) | ((with_reducible refine gate_store (t := 166) (p := 5) rfl ?_); refine store_event (w1 := (World.setCell (World.setCell (World.setCell w4147 ⟨g4146, 0, none⟩ (.int .i64 t4143.1)) ⟨g4146, 1, none⟩ (.int .i64 t4143.2.1)) ⟨g4146, 2, none⟩ (.int .i64 t4143.2.2.1))) rfl (t := 166) (p := 5) rfl rfl ?hr ?_; (case hr => first | (go_simp; done) | (go_simp; rfl)); intro w4155 hst; clear hc4149 hz4150 hc4151 hz4152 hc4153 hz4154; replace HS : Aside0 (Sep FF w [b8 g4128 g4130 a4138 a4139 a4140 a4141, b7 g4130 A4133 l4132.length n4135 a4137, r6 A4133 l4132.length n4135 l4132, b9 g4146 t4143.1 t4143.2.1 t4143.2.2.1] w4155) := ⟨by rw [hst]; exact HS.out.setAll (l1 := [b8 g4128 g4130 a4138 a4139 a4140 a4141, b7 g4130 A4133 l4132.length n4135 a4137, r6 A4133 l4132.length n4135 l4132]) (l2 := []) [.int .i64 t4143.1, .int .i64 t4143.2.1, .int .i64 t4143.2.2.1] rfl⟩; clear hst; have hc4157 : w4155.cell? ⟨g4146, 0, none⟩ = some (.int .i64 t4143.1) := blk_cellv (HS.out.at3) 0 rfl))
    clear hc4157
    obtain ⟨t4183, HA4184, H⟩ := bind_some H
    refine (ground_Ground_SeeReg.calls l4132 a4137 a4138 a4139 a4140 a4141 t4143.1 g4128 g4130 A4133 l4132.length n4135 t4183 _ ⟨HGl0.out.pass HS.out⟩ ⟨HS.out.begin⟩ HA4184).mono ?_
    rintro e_ w4185 ⟨rfl, hS⟩
    replace HS : Aside0 (Sep FF w [b8 g4128 g4130 a4138 a4139 a4140 a4141, b7 g4130 A4133 l4132.length n4135 a4137, r6 A4133 l4132.length n4135 l4132, b9 g4146 t4143.1 t4143.2.1 t4143.2.2.1] w4185) := ⟨HS.out.call hS⟩
    clear hS
    replace HS : Aside0 (Sep FF w [b8 g4128 g4130 a4138 a4139 a4140 a4141, b7 g4130 A4133 l4132.length n4135 a4137, r6 A4133 l4132.length n4135 l4132] w4185) := ⟨HS.out.sub (.cons_cons _ (.cons_cons _ (.cons_cons _ (.cons _ .slnil))))⟩
    go_wp2_with fail
    replace HS : Aside0 (Sep FF w [r18 none 0 0 [], b8 g4128 g4130 a4138 a4139 a4140 a4141, b7 g4130 A4133 l4132.length n4135 a4137, r6 A4133 l4132.length n4135 l4132] w4185) := ⟨HS.out.nilrow 3 (Value.int .i64)⟩
    obtain ⟨o4187, AL4188, H⟩ := bind_some H
    go_loopg [7, 8] k (fun kq v7 v8 wc => ∃ (x4193 : Int) (x4194 : List Int) (A4195 : Option Addr) (m4196 : Nat) (n4197 : Nat), v7 = .slice A4195 m4196 n4197 ∧ v8 = .int .i64 x4193 ∧ Aside0 (chain_List.lo0 kq l4132 a4137 a4138 a4139 a4140 a4141 x4193 x4194 = some o4187) ∧ Aside0 (Sep FF w [r18 A4195 m4196 n4197 x4194, b8 g4128 g4130 a4138 a4139 a4140 a4141, b7 g4130 A4133 l4132.length n4135 a4137, r6 A4133 l4132.length n4135 l4132] wc))
    case atStart => exact ⟨(t4183), (([] : List Int)), (none), (0), (0), (by first | rfl | (simp [IntKind.wrap_u32]; done)), (by first | rfl | (simp [IntKind.wrap_u32]; done)), AL4188, ⟨HS.out⟩⟩
    case round =>
      clear AL4188 HS
      obtain ⟨x4193, x4194, A4195, m4196, n4197, rfl, rfl, AL4188, HS⟩ := hrel
      obtain ⟨w4189, rfl⟩ : ∃ x : World, x = wr := ⟨_, rfl⟩
      obtain rfl := (row_len (HS.out.at0)).symm
      cases gk with
      | zero => exact absurd AL4188.out (by simp [chain_List.lo0])
      | succ k4190 =>
        have AL0 := AL4188.out
        rw [chain_List.lo0] at AL0
        clear AL4188
        have AL4188 := Aside0.mk AL0
        clear AL0
        by_cases c4199 : x4193 > 0
        · replace AL4188 := if_yes c4199 AL4188
          have c4199b0 : decide (0 < x4193) = true := decide_eq_true c4199
          clear c4199
          go_wp2_with fail
          replace HS : Aside0 (Sep FF w [r6 A4133 l4132.length n4135 l4132, r18 A4195 x4194.length n4197 x4194, b8 g4128 g4130 a4138 a4139 a4140 a4141, b7 g4130 A4133 l4132.length n4135 a4137] w4189) := ⟨HS.out.front 3 (by simp)⟩
          replace HS : Aside0 (Sep FF w [b7 g4130 A4133 l4132.length n4135 a4137, r6 A4133 l4132.length n4135 l4132, r18 A4195 x4194.length n4197 x4194, b8 g4128 g4130 a4138 a4139 a4140 a4141] w4189) := ⟨HS.out.front 3 (by simp)⟩
          replace HS : Aside0 (Sep FF w [b8 g4128 g4130 a4138 a4139 a4140 a4141, b7 g4130 A4133 l4132.length n4135 a4137, r6 A4133 l4132.length n4135 l4132, r18 A4195 x4194.length n4197 x4194] w4189) := ⟨HS.out.front 3 (by simp)⟩
          obtain ⟨t4200, HA4201, AL4188⟩ := bind_some AL4188
          refine (ground_Ground_Conf.calls l4132 a4137 a4138 a4139 a4140 a4141 g4128 g4130 A4133 l4132.length n4135 t4200 _ ⟨HGl0.out.pass HS.out⟩ ⟨HS.out.begin⟩ HA4201).mono ?_
          rintro e_ w4202 ⟨rfl, hS⟩
          replace HS : Aside0 (Sep FF w [b8 g4128 g4130 a4138 a4139 a4140 a4141, b7 g4130 A4133 l4132.length n4135 a4137, r6 A4133 l4132.length n4135 l4132, r18 A4195 x4194.length n4197 x4194] w4202) := ⟨HS.out.call hS⟩
          clear hS
          by_cases c4204 : (x4194.length : Int) < t4200.1
          · replace AL4188 := if_yes c4204 AL4188
            have c4204b0 : decide ((x4194.length : Int) < t4200.1) = true := decide_eq_true c4204
            clear c4204
            by_cases c4208 : x4194.length < 17592186044416
            · replace AL4188 := if_yes c4208 AL4188
              have c4208b0 : decide (x4194.length < 17592186044416) = true := decide_eq_true c4208
              clear c4208
              obtain ⟨y4212, HA4213, AL4188⟩ := bind_some AL4188
              have fl4203 : ∀ w, (Instr.field 30 (.agg #[.int .i64 t4200.1, .int .i64 t4200.2.1, .int .i64 t4200.2.2.1, .int .i64 t4200.2.2.2]) 0).run Tryd.prog w = .ok (.int .i64 t4200.1) w := fun _ => by kernel_rfl
              go_wp2_with (first | ((with_reducible refine gate_dst (N := 39) rfl ?_); refine slice_on (n := 1) ?hg (N := 39) ?hd (cs := #[.int .i64 (wrap64 (x4193 - 1))]) (t := 3) ?hr ?_; (case hd => rfl); (case hg => rfl); (case hr => first | (go_simp; done) | (go_simp; rfl)); intro g4205 hg w4206 hbox hb; clear fl4203; replace HS : Aside0 (Sep FF w [b8 g4128 g4130 a4138 a4139 a4140 a4141, b7 g4130 A4133 l4132.length n4135 a4137, r6 A4133 l4132.length n4135 l4132, r18 A4195 x4194.length n4197 x4194, b11 g4205 (wrap64 (x4193 - 1))] w4206) := ⟨HS.out.box hg hbox hb⟩; clear hg hbox hb) | ((with_reducible refine gate_dst (N := 40) rfl ?_); refine append_event (l1 := [b8 g4128 g4130 a4138 a4139 a4140 a4141, b7 g4130 A4133 l4132.length n4135 a4137, r6 A4133 l4132.length n4135 l4132]) (l2 := [b11 g4205 (wrap64 (x4193 - 1))]) rfl (.tmp 36) (.tmp 39) 49 3 (.int .i64 0) 8 rfl Tryd.underlying49 (by kernel_rfl) rfl (by decide) (Value.int .i64) (fun _ => rfl) (.slice A4195 x4194.length n4197) (x4194 : List Int) [wrap64 (x4193 - 1)] ⟨g4205, 0, none⟩ 1 rfl rfl (blk_news (xs := [wrap64 (x4193 - 1)]) (HS.out.at4)) HS.out (by have := of_decide_eq_true c4208b0; simp only [List.length_cons, List.length_nil]; omega) HA4213 ?_; intro A4209 n4210 w4211 HS1; replace HS : Aside0 (Sep FF w [b8 g4128 g4130 a4138 a4139 a4140 a4141, b7 g4130 A4133 l4132.length n4135 a4137, r6 A4133 l4132.length n4135 l4132, r18 A4209 y4212.length n4210 y4212, b11 g4205 (wrap64 (x4193 - 1))] w4211) := ⟨HS1⟩; clear HS1; replace HS : Aside0 (Sep FF w [b8 g4128 g4130 a4138 a4139 a4140 a4141, b7 g4130 A4133 l4132.length n4135 a4137, r6 A4133 l4132.length n4135 l4132, r18 A4209 y4212.length n4210 y4212] w4211) := ⟨HS.out.sub (.cons_cons _ (.cons_cons _ (.cons_cons _ (.cons_cons _ (.cons _ .slnil)))))⟩))
              obtain ⟨t4215, HA4216, AL4188⟩ := bind_some AL4188
              refine (ground_Ground_SeeWord.calls l4132 a4137 a4138 a4139 a4140 a4141 (wrap64 (x4193 - 1)) 5 g4128 g4130 A4133 l4132.length n4135 t4215 _ ⟨HGl0.out.pass HS.out⟩ ⟨HS.out.begin⟩ HA4216).mono ?_
              rintro e_ w4217 ⟨rfl, hS⟩
              replace HS : Aside0 (Sep FF w [b8 g4128 g4130 a4138 a4139 a4140 a4141, b7 g4130 A4133 l4132.length n4135 a4137, r6 A4133 l4132.length n4135 l4132, r18 A4209 y4212.length n4210 y4212] w4217) := ⟨HS.out.call hS⟩
              clear hS
              go_wp2_with fail
              go_roundg k4190
              case measure => exact Nat.lt_succ_self _
              case rel => exact ⟨(wrap64 (t4215)), (y4212), (A4209), (y4212.length), (n4210), (by first | rfl | (simp [IntKind.wrap_u32]; done)), (by first | rfl | (simp [IntKind.wrap_u32]; done)), Aside0.mk AL4188.out, ⟨(((((HS.out).front 2 (by simp)).front 2 (by simp)).front 2 (by simp)).front 3 (by simp)).keep (l := [r18 A4209 y4212.length n4210 y4212, b8 g4128 g4130 a4138 a4139 a4140 a4141, b7 g4130 A4133 l4132.length n4135 a4137, r6 A4133 l4132.length n4135 l4132]) (rest := [])⟩⟩
            · replace AL4188 := if_no c4208 AL4188
              have c4208b0 : decide (x4194.length < 17592186044416) = false := decide_eq_false c4208
              clear c4208
              exact (none_no AL4188).elim
          · replace AL4188 := if_no c4204 AL4188
            have c4204b0 : decide ((x4194.length : Int) < t4200.1) = false := decide_eq_false c4204
            clear c4204
            have ho := some_eq AL4188
            subst ho
            clear AL4188
            have fl4203 : ∀ w, (Instr.field 30 (.agg #[.int .i64 t4200.1, .int .i64 t4200.2.1, .int .i64 t4200.2.2.1, .int .i64 t4200.2.2.2]) 0).run Tryd.prog w = .ok (.int .i64 t4200.1) w := fun _ => by kernel_rfl
            go_wp2_with fail
            clear fl4203
            go_ret
            rw [← some_eq H]
            exact ⟨A4195, x4194.length, n4197, (by first | rfl | (simp [IntKind.wrap_u32]; done)), HS.out⟩
        · replace AL4188 := if_no c4199 AL4188
          have c4199b0 : decide (0 < x4193) = false := decide_eq_false c4199
          clear c4199
          have ho := some_eq AL4188
          subst ho
          clear AL4188
          go_wp2_with fail
          go_ret
          rw [← some_eq H]
          exact ⟨A4195, x4194.length, n4197, (by first | rfl | (simp [IntKind.wrap_u32]; done)), ((((HS.out).front 3 (by simp)).front 3 (by simp)).front 3 (by simp)).keep (l := [b8 g4128 g4130 a4138 a4139 a4140 a4141, b7 g4130 A4133 l4132.length n4135 a4137, r6 A4133 l4132.length n4135 l4132, r18 A4195 x4194.length n4197 x4194]) (rest := [])⟩
  · replace H := if_no c4156 H
    have c4156b0 : t4143.2.2.2 = false := by simpa using c4156
    have c4156b1 : (!t4143.2.2.2) = true := by rw [c4156b0]; rfl
    try rw [c4156b1]
    clear c4156
    go_wp2_with (first | ((with_reducible refine gate_dst (N := 5) rfl ?_); refine box_on ?hg (N := 5) ?hd (cs := #[.int .i64 0, .int .i64 0, .int .i64 0]) (t := 166) ?hr ?_; (case hd => rfl); (case hg => rfl); (case hr => first | (go_simp; done) | (go_simp; rfl)); intro g4146 hg w4147 hbox hb; replace HS : Aside0 (Sep FF w [b8 g4128 g4130 a4138 a4139 a4140 a4141, b7 g4130 A4133 l4132.length n4135 a4137, r6 A4133 l4132.length n4135 l4132, b9 g4146 0 0 0] w4147) := ⟨HS.out.box hg hbox hb⟩; clear hg hbox hb; have hc4149 : w4147.cell? ⟨g4146, 0, none⟩ = some (.int .i64 0) := blk_cellv (HS.out.at3) 0 rfl; have hz4150 : w4147.frozen? ⟨g4146, 0, none⟩ = false := blk_fz (HS.out.at3) 0; have hc4151 : w4147.cell? ⟨g4146, 1, none⟩ = some (.int .i64 0) := blk_cellv (HS.out.at3) 1 rfl; have hz4152 : w4147.frozen? ⟨g4146, 1, none⟩ = false := blk_fz (HS.out.at3) 1; have hc4153 : w4147.cell? ⟨g4146, 2, none⟩ = some (.int .i64 0) := blk_cellv (HS.out.at3) 2 rfl; have hz4154 : w4147.frozen? ⟨g4146, 2, none⟩ = false := blk_fz (HS.out.at3) 2) | ((with_reducible refine gate_store (t := 166) (p := 5) rfl ?_); refine store_event (w1 := (World.setCell (World.setCell (World.setCell w4147 ⟨g4146, 0, none⟩ (.int .i64 t4143.1)) ⟨g4146, 1, none⟩ (.int .i64 t4143.2.1)) ⟨g4146, 2, none⟩ (.int .i64 t4143.2.2.1))) rfl (t := 166) (p := 5) rfl rfl ?hr ?_; (case hr => first | (go_simp; done) | (go_simp; rfl)); intro w4155 hst; clear hc4149 hz4150 hc4151 hz4152 hc4153 hz4154; replace HS : Aside0 (Sep FF w [b8 g4128 g4130 a4138 a4139 a4140 a4141, b7 g4130 A4133 l4132.length n4135 a4137, r6 A4133 l4132.length n4135 l4132, b9 g4146 t4143.1 t4143.2.1 t4143.2.2.1] w4155) := ⟨by rw [hst]; exact HS.out.setAll (l1 := [b8 g4128 g4130 a4138 a4139 a4140 a4141, b7 g4130 A4133 l4132.length n4135 a4137, r6 A4133 l4132.length n4135 l4132]) (l2 := []) [.int .i64 t4143.1, .int .i64 t4143.2.1, .int .i64 t4143.2.2.1] rfl⟩; clear hst; replace HS : Aside0 (Sep FF w [b8 g4128 g4130 a4138 a4139 a4140 a4141, b7 g4130 A4133 l4132.length n4135 a4137, r6 A4133 l4132.length n4135 l4132] w4155) := ⟨HS.out.sub (.cons_cons _ (.cons_cons _ (.cons_cons _ (.cons _ .slnil))))⟩))
    replace HS : Aside0 (Sep FF w [r18 none 0 0 [], b8 g4128 g4130 a4138 a4139 a4140 a4141, b7 g4130 A4133 l4132.length n4135 a4137, r6 A4133 l4132.length n4135 l4132] w4155) := ⟨HS.out.nilrow 3 (Value.int .i64)⟩
    go_ret
    rw [← some_eq H]
    exact ⟨none, 0, 0, (by first | rfl | (simp [IntKind.wrap_u32]; done)), ((((HS.out).front 3 (by simp)).front 3 (by simp)).front 3 (by simp)).keep (l := [b8 g4128 g4130 a4138 a4139 a4140 a4141, b7 g4130 A4133 l4132.length n4135 a4137, r6 A4133 l4132.length n4135 l4132, r18 none 0 0 []]) (rest := [])⟩

set_option maxHeartbeats 30000000 in
set_option maxRecDepth 100000 in
theorem pool_List.calls (k : Nat) (l4117 : List Int) (a4122 : Int) (a4123 : Int) (a4124 : Int) (a4125 : Int) (a4126 : Int) (g4113 : Nat) (g4115 : Nat) (A4118 : Option Addr) (m4119 : Nat) (n4120 : Nat) (r : List Int) (w : World)  (HGl0 : Aside0 (Gl 0 #[.int .i64 0, .int .i64 0, .int .i64 0, .int .i64 0, .int .i64 0] (fps [b8 g4113 g4115 a4123 a4124 a4125 a4126, b7 g4115 A4118 m4119 n4120 a4122, r6 A4118 m4119 n4120 l4117]) w)) (HS : Aside0 (Sep (fps [b8 g4113 g4115 a4123 a4124 a4125 a4126, b7 g4115 A4118 m4119 n4120 a4122, r6 A4118 m4119 n4120 l4117]) w [b8 g4113 g4115 a4123 a4124 a4125 a4126, b7 g4115 A4118 m4119 n4120 a4122, r6 A4118 m4119 n4120 l4117] w)) (H : Aside0 (pool_List.f k l4117 a4122 a4123 a4124 a4125 a4126 = some r)) :
    Calls Tryd.prog 104 #[.pointer (some ⟨g4113, 0, none⟩)] w fun e w' => ∃ (A4263 : Option Addr) (m4264 : Nat) (n4265 : Nat), e = .returned (.slice A4263 m4264 n4265) ∧ Sep (fps [b8 g4113 g4115 a4123 a4124 a4125 a4126, b7 g4115 A4118 m4119 n4120 a4122, r6 A4118 m4119 n4120 l4117]) w [b8 g4113 g4115 a4123 a4124 a4125 a4126, b7 g4115 A4118 m4119 n4120 a4122, r6 A4118 m4119 n4120 l4117, r18 A4263 m4264 n4265 r] w' := by
  generalize (fps [b8 g4113 g4115 a4123 a4124 a4125 a4126, b7 g4115 A4118 m4119 n4120 a4122, r6 A4118 m4119 n4120 l4117]) = FF at HS HGl0 ⊢
  obtain rfl := (row_len (HS.out.at2)).symm
  unfold pool_List.f at H
  go_enter Tryd.func104, Tryd.ntmps104
  go_wp2_with fail
  obtain ⟨t4249, HA4250, H⟩ := bind_some H
  refine (chain_List.calls _ l4117 a4122 a4123 a4124 a4125 a4126 0 g4113 g4115 A4118 l4117.length n4120 t4249 _ ⟨HGl0.out.pass HS.out⟩ ⟨HS.out.begin⟩ HA4250).mono ?_
  rintro e_ w4251 ⟨A4253, m4254, n4255, rfl, hS⟩
  replace HS : Aside0 (Sep FF w [b8 g4113 g4115 a4123 a4124 a4125 a4126, b7 g4115 A4118 l4117.length n4120 a4122, r6 A4118 l4117.length n4120 l4117, r18 A4253 m4254 n4255 t4249] w4251) := ⟨HS.out.call hS⟩
  clear hS
  obtain rfl := (row_len (HS.out.at3)).symm
  go_wp2_with fail
  go_ret
  rw [← some_eq H]
  exact ⟨A4253, t4249.length, n4255, (by first | rfl | (simp [IntKind.wrap_u32]; done)), HS.out⟩

set_option maxHeartbeats 30000000 in
set_option maxRecDepth 100000 in
theorem quitrentref01_Ints.calls (k : Nat) (l4278 : List Int) (l4282 : List Int) (A4279 : Option Addr) (n4280 : Nat) (A4283 : Option Addr) (n4284 : Nat) (r : Bool) (w : World) (HR4281 : Aside0 (Rd (Kd.int .i64) (fps []) w A4279 l4278.length l4278)) (HR4285 : Aside0 (Rd (Kd.int .i64) (fps []) w A4283 l4282.length l4282)) (HGl0 : Aside0 (Gl 0 #[.int .i64 0, .int .i64 0, .int .i64 0, .int .i64 0, .int .i64 0] (fps []) w)) (HS : Aside0 (Sep (fps []) w [] w)) (H : Aside0 (quitrentref01_Ints.f k l4278 l4282 = some r)) :
    Calls Tryd.prog 32 #[.slice A4279 l4278.length n4280, .slice A4283 l4282.length n4284] w fun e w' => e = .returned (.bool r) ∧ Sep (fps []) w [] w' := by
  unfold quitrentref01_Ints.f at H
  go_enter Tryd.func32, Tryd.ntmps32
  by_cases c4286 : (l4278.length : Int) = (l4282.length : Int)
  · replace H := if_yes c4286 H
    have c4286b0 : ((l4278.length : Int) == (l4282.length : Int)) = true := beq_iff_eq.mpr c4286
    have c4286b1 : ((l4278.length : Int) != (l4282.length : Int)) = false := bne_eq_false_iff_eq.mpr c4286
    clear c4286
    go_wp2_with fail
    obtain ⟨o4302, AL4303, H⟩ := bind_some H
    go_loopg [5] k (fun kq v5 wc => ∃ (x4306 : Int), v5 = .int .i64 x4306 ∧ Aside0 (quitrentref01_Ints.lo0 kq l4278 l4282 x4306 = some o4302) ∧ Aside0 (Sep (fps []) w [] wc))
    case atStart => exact ⟨(0), (by first | rfl | (simp [IntKind.wrap_u32]; done)), AL4303, ⟨HS.out⟩⟩
    case round =>
      clear AL4303 HS
      obtain ⟨x4306, rfl, AL4303, HS⟩ := hrel
      obtain ⟨w4304, rfl⟩ : ∃ x : World, x = wr := ⟨_, rfl⟩
      cases gk with
      | zero => exact absurd AL4303.out (by simp [quitrentref01_Ints.lo0])
      | succ k4305 =>
        have AL0 := AL4303.out
        rw [quitrentref01_Ints.lo0] at AL0
        clear AL4303
        have AL4303 := Aside0.mk AL0
        clear AL0
        by_cases c4307 : x4306 < (l4278.length : Int)
        · replace AL4303 := if_yes c4307 AL4303
          have c4307b0 : decide (x4306 < (l4278.length : Int)) = true := decide_eq_true c4307
          clear c4307
          go_wp2_with fail
          refine start_ (n := 9) (S := (fun w' => Kd.C (Kd.int .i64) w' A4279 l4278.length l4278 ∧ Kd.C (Kd.int .i64) w' A4283 l4282.length l4282)) (ds := []) #[false, false, false, false, false, false, false, false, false] (by kernel_rfl) rfl rfl (⟨Rd.read (fun _ _ _ _ h => h) HR4281.out (HS.out.drew).fr, Rd.read (fun _ _ _ _ h => h) HR4285.out (HS.out.drew).fr⟩) (fun hHeld => ?_)
          have HS_ := Aside0.mk HS.out.drew
          clear HS
          generalize World.drew _ = w4309 at HS_ hHeld ⊢
          have HS := HS_
          clear HS_
          refine pure_ (i := 0) (N := some 17) (v := ?_) (a' := ?_) #[true, false, false, false, false, false, false, false, false] rfl rfl (by kernel_rfl) (fun _ _ _ h => h) (Or.inl ⟨by rfl, ?_⟩) ?_ ?_
          rotate_left
          · intro w'
            go_simp
            with_reducible rfl
          rotate_left
          · simp only [Act.put, List.setIfInBounds_toArray, List.set_cons_zero, List.set_cons_succ, i64_w, i32_w]
            rfl
          refine pure_ (i := 1) (N := some 18) (v := ?_) (a' := ?_) #[true, true, false, false, false, false, false, false, false] rfl rfl (by kernel_rfl) (fun _ _ _ h => h) (Or.inl ⟨by rfl, ?_⟩) ?_ ?_
          rotate_left
          · intro w'
            go_simp
            with_reducible rfl
          rotate_left
          · simp only [Act.put, List.setIfInBounds_toArray, List.set_cons_zero, List.set_cons_succ, i64_w, i32_w]
            rfl
          by_cases c4310 : 0 ≤ x4306
          · replace AL4303 := if_yes c4310 AL4303
            have c4310b0 : decide (0 ≤ x4306) = true := decide_eq_true c4310
            have c4310p : (0 ≤ x4306) = True := eq_true c4310
            clear c4310
            have ip4311 : (x4306 < (l4278.length : Int)) = True := eq_true (of_decide_eq_true c4307b0)
            obtain ⟨ad4312, ea, _⟩ := Kd.at_int (Rd.read (fun _ _ _ _ h => h) HR4281.out HS.out.fr) x4306 (of_decide_eq_true c4310b0) (of_decide_eq_true c4307b0)
            cases ea
            refine pure_ (i := 2) (N := some 19) (v := ?_) (a' := ?_) #[true, true, true, false, false, false, false, false, false] rfl rfl (by kernel_rfl) (fun _ _ _ h => h) (Or.inl ⟨by rfl, ?_⟩) ?_ ?_
            rotate_left
            · intro w'
              go_simp
              with_reducible rfl
            rotate_left
            · simp only [Act.put, List.setIfInBounds_toArray, List.set_cons_zero, List.set_cons_succ, i64_w, i32_w]
              rfl
            refine pure_ (i := 4) (N := some 21) (v := ?_) (a' := ?_) #[true, true, true, false, true, false, false, false, false] rfl rfl (by kernel_rfl) (fun _ _ _ h => h) (Or.inl ⟨by rfl, ?_⟩) ?_ ?_
            rotate_left
            · intro w'
              go_simp
              with_reducible rfl
            rotate_left
            · simp only [Act.put, List.setIfInBounds_toArray, List.set_cons_zero, List.set_cons_succ, i64_w, i32_w]
              rfl
            refine pure_ (i := 5) (N := some 22) (v := ?_) (a' := ?_) #[true, true, true, false, true, true, false, false, false] rfl rfl (by kernel_rfl) (fun _ _ _ h => h) (Or.inl ⟨by rfl, ?_⟩) ?_ ?_
            rotate_left
            · intro w'
              go_simp
              with_reducible rfl
            rotate_left
            · simp only [Act.put, List.setIfInBounds_toArray, List.set_cons_zero, List.set_cons_succ, i64_w, i32_w]
              rfl
            by_cases c4313 : x4306 < (l4282.length : Int)
            · replace AL4303 := if_yes c4313 AL4303
              have c4313b0 : decide (x4306 < (l4282.length : Int)) = true := decide_eq_true c4313
              have c4313p : (x4306 < (l4282.length : Int)) = True := eq_true c4313
              clear c4313
              obtain ⟨ad4314, ea, _⟩ := Kd.at_int (Rd.read (fun _ _ _ _ h => h) HR4285.out HS.out.fr) x4306 (of_decide_eq_true c4310b0) (of_decide_eq_true c4313b0)
              cases ea
              refine pure_ (i := 6) (N := some 23) (v := ?_) (a' := ?_) #[true, true, true, false, true, true, true, false, false] rfl rfl (by kernel_rfl) (fun _ _ _ h => h) (Or.inl ⟨by rfl, ?_⟩) ?_ ?_
              rotate_left
              · intro w'
                go_simp
                with_reducible rfl
              rotate_left
              · simp only [Act.put, List.setIfInBounds_toArray, List.set_cons_zero, List.set_cons_succ, i64_w, i32_w]
                rfl
              refine take_ (i := 3) (N := some 20) (v := ?_) (a' := ?_) #[true, true, true, true, true, true, true, false, false] rfl rfl (by kernel_rfl) (fun _ _ _ h => h) (Or.inl ⟨by rfl, ?_⟩) hHeld ?_ ?_
              rotate_left
              · rintro w' hS'
                obtain ⟨s0, s1⟩ := hS'
                have hx := C_at_int s0 x4306 (of_decide_eq_true c4310b0) (of_decide_eq_true c4307b0)
                go_simp
                with_reducible rfl
              rotate_left
              · simp only [Act.put, List.setIfInBounds_toArray, List.set_cons_zero, List.set_cons_succ, i64_w, i32_w]
                rfl
              refine take_ (i := 7) (N := some 24) (v := ?_) (a' := ?_) #[true, true, true, true, true, true, true, true, false] rfl rfl (by kernel_rfl) (fun _ _ _ h => h) (Or.inl ⟨by rfl, ?_⟩) hHeld ?_ ?_
              rotate_left
              · rintro w' hS'
                obtain ⟨s0, s1⟩ := hS'
                have hx := C_at_int s1 x4306 (of_decide_eq_true c4310b0) (of_decide_eq_true c4313b0)
                go_simp
                with_reducible rfl
              rotate_left
              · simp only [Act.put, List.setIfInBounds_toArray, List.set_cons_zero, List.set_cons_succ, i64_w, i32_w]
                rfl
              refine pure_ (i := 8) (N := some 25) (v := ?_) (a' := ?_) #[true, true, true, true, true, true, true, true, true] rfl rfl (by kernel_rfl) (fun _ _ _ h => h) (Or.inl ⟨by rfl, ?_⟩) ?_ ?_
              rotate_left
              · intro w'
                go_simp
                with_reducible rfl
              rotate_left
              · simp only [Act.put, List.setIfInBounds_toArray, List.set_cons_zero, List.set_cons_succ, i64_w, i32_w]
                rfl
              refine done_ (by kernel_rfl) ?_
              by_cases c4315 : (rd l4278 x4306) = (rd l4282 x4306)
              · replace AL4303 := if_yes c4315 AL4303
                have c4315b0 : ((rd l4278 x4306) == (rd l4282 x4306)) = true := beq_iff_eq.mpr c4315
                have c4315b1 : ((rd l4278 x4306) != (rd l4282 x4306)) = false := bne_eq_false_iff_eq.mpr c4315
                clear c4315
                go_wp2_with fail
                go_roundg k4305
                case measure => exact Nat.lt_succ_self _
                case rel => exact ⟨(wrap64 (x4306 + 1)), (by first | rfl | (simp [IntKind.wrap_u32]; done)), Aside0.mk AL4303.out, ⟨HS.out⟩⟩
              · replace AL4303 := if_no c4315 AL4303
                have c4315b0 : ((rd l4278 x4306) == (rd l4282 x4306)) = false := beq_eq_false_iff_ne.mpr c4315
                have c4315b1 : ((rd l4278 x4306) != (rd l4282 x4306)) = true := bne_iff_ne.mpr c4315
                clear c4315
                go_wp2_with fail
                have ho := some_eq AL4303
                subst ho
                have H := lp_ret H
                go_ret
                rw [← some_eq H]
                exact ⟨(by first | rfl | (simp [IntKind.wrap_u32]; done)), HS.out⟩
            · replace AL4303 := if_no c4313 AL4303
              have c4313b0 : decide (x4306 < (l4282.length : Int)) = false := decide_eq_false c4313
              clear c4313
              exact (none_no AL4303).elim
          · replace AL4303 := if_no c4310 AL4303
            have c4310b0 : decide (0 ≤ x4306) = false := decide_eq_false c4310
            clear c4310
            exact (none_no AL4303).elim
        · replace AL4303 := if_no c4307 AL4303
          have c4307b0 : decide (x4306 < (l4278.length : Int)) = false := decide_eq_false c4307
          clear c4307
          have ho := some_eq AL4303
          subst ho
          clear AL4303
          have H := lp_out H
          go_wp2_with fail
          go_ret
          rw [← some_eq H]
          exact ⟨(by first | rfl | (simp [IntKind.wrap_u32]; done)), HS.out⟩
  · replace H := if_no c4286 H
    have c4286b0 : ((l4278.length : Int) == (l4282.length : Int)) = false := beq_eq_false_iff_ne.mpr c4286
    have c4286b1 : ((l4278.length : Int) != (l4282.length : Int)) = true := bne_iff_ne.mpr c4286
    clear c4286
    go_wp2_with fail
    go_ret
    rw [← some_eq H]
    exact ⟨(by first | rfl | (simp [IntKind.wrap_u32]; done)), HS.out⟩

set_option maxHeartbeats 30000000 in
set_option maxRecDepth 100000 in
theorem quitrentlaw11_begun.calls (k : Nat)  (r : Bool) (w : World)  (HGl0 : Aside0 (Gl 0 #[.int .i64 0, .int .i64 0, .int .i64 0, .int .i64 0, .int .i64 0] (fps []) w)) (HS : Aside0 (Sep (fps []) w [] w)) (H : Aside0 (quitrentlaw11_begun.f k = some r)) :
    Calls Tryd.prog 42 #[] w fun e w' => e = .returned (.bool r) ∧ Sep (fps []) w [] w' := by
  unfold quitrentlaw11_begun.f at H
  go_enter Tryd.func42, Tryd.ntmps42
  go_wp2_with fail
  obtain ⟨t3719, HA3720, H⟩ := bind_some H
  rcases t3719 with t3721 | t3722
  · have H := sum_l H
    refine (quitrentlaw11_opened.calls _ 6 16 1 1 (.inl t3721) _ ⟨HGl0.out.pass (l := []) HS.out⟩ ⟨Sep.start _⟩ HA3720).mono ?_
    rintro e_ w3723 ⟨rfl, hS⟩
    replace HS : Aside0 (Sep (fps []) w [] w3723) := ⟨HS.out.call hS⟩
    clear hS
    by_cases c3724 : t3721 = true
    · replace H := if_yes c3724 H
      have c3724b0 : t3721 = true := c3724
      have c3724b1 : (!t3721) = false := by rw [c3724b0]; rfl
      try rw [c3724b1]
      clear c3724
      exact (none_no H).elim
    · replace H := if_no c3724 H
      have c3724b0 : t3721 = false := by simpa using c3724
      have c3724b1 : (!t3721) = true := by rw [c3724b0]; rfl
      try rw [c3724b1]
      clear c3724
      go_wp2_with fail
      go_ret
      rw [← some_eq H]
      exact ⟨(by first | rfl | (simp [IntKind.wrap_u32]; done)), HS.out⟩
  · have H := sum_r H
    refine (quitrentlaw11_opened.calls _ 6 16 1 1 (.inr t3722) _ ⟨HGl0.out.pass (l := []) HS.out⟩ ⟨Sep.start _⟩ HA3720).mono ?_
    rintro e_ w3725 ⟨g3729, rfl, g3730, A3731, m3732, n3733, hS⟩
    replace HS : Aside0 (Sep (fps []) w [b8 g3729 g3730 t3722.2.1 t3722.2.2.1 t3722.2.2.2.1 t3722.2.2.2.2.1, b7 g3730 A3731 m3732 n3733 t3722.2.2.2.2.2.1, r6 A3731 m3732 n3733 t3722.2.2.2.2.2.2] w3725) := ⟨HS.out.call hS⟩
    clear hS
    obtain rfl := (row_len (HS.out.at2)).symm
    by_cases c3735 : t3722.1 = true
    · replace H := if_yes c3735 H
      have c3735b0 : t3722.1 = true := c3735
      have c3735b1 : (!t3722.1) = false := by rw [c3735b0]; rfl
      try rw [c3735b1]
      clear c3735
      go_wp2_with fail
      obtain ⟨t3736, HA3737, H⟩ := bind_some H
      refine (obj_Make.calls _ t3722.2.2.2.2.2.2 t3722.2.2.2.2.2.1 t3722.2.1 t3722.2.2.1 t3722.2.2.2.1 t3722.2.2.2.2.1 2 1 g3729 g3730 A3731 ((t3722.2.2.2.2.2.2).length) n3733 t3736 _ ⟨HGl0.out.pass HS.out⟩ ⟨HS.out.begin⟩ HA3737).mono ?_
      rintro e_ w3738 ⟨rfl, hS⟩
      replace HS : Aside0 (Sep (fps []) w [b8 g3729 g3730 t3722.2.1 t3722.2.2.1 t3722.2.2.2.1 t3722.2.2.2.2.1, b7 g3730 A3731 ((t3722.2.2.2.2.2.2).length) n3733 t3736.2.2.1, r6 A3731 ((t3722.2.2.2.2.2.2).length) n3733 t3736.2.2.2] w3738) := ⟨HS.out.call hS⟩
      clear hS
      go_wp2_with fail
      obtain ⟨t3739, HA3740, H⟩ := bind_some H
      refine (obj_Make.calls _ t3736.2.2.2 t3736.2.2.1 t3722.2.1 t3722.2.2.1 t3722.2.2.2.1 t3722.2.2.2.2.1 0 20 g3729 g3730 A3731 ((t3722.2.2.2.2.2.2).length) n3733 t3739 _ ⟨HGl0.out.pass HS.out⟩ ⟨HS.out.begin⟩ HA3740).mono ?_
      rintro e_ w3741 ⟨rfl, hS⟩
      replace HS : Aside0 (Sep (fps []) w [b8 g3729 g3730 t3722.2.1 t3722.2.2.1 t3722.2.2.2.1 t3722.2.2.2.2.1, b7 g3730 A3731 ((t3722.2.2.2.2.2.2).length) n3733 t3739.2.2.1, r6 A3731 ((t3722.2.2.2.2.2.2).length) n3733 t3739.2.2.2] w3741) := ⟨HS.out.call hS⟩
      clear hS
      go_wp2_with fail
      obtain ⟨t3742, HA3743, H⟩ := bind_some H
      refine (obj_Make.calls _ t3739.2.2.2 t3739.2.2.1 t3722.2.1 t3722.2.2.1 t3722.2.2.2.1 t3722.2.2.2.2.1 0 0 g3729 g3730 A3731 ((t3722.2.2.2.2.2.2).length) n3733 t3742 _ ⟨HGl0.out.pass HS.out⟩ ⟨HS.out.begin⟩ HA3743).mono ?_
      rintro e_ w3744 ⟨rfl, hS⟩
      replace HS : Aside0 (Sep (fps []) w [b8 g3729 g3730 t3722.2.1 t3722.2.2.1 t3722.2.2.2.1 t3722.2.2.2.2.1, b7 g3730 A3731 ((t3722.2.2.2.2.2.2).length) n3733 t3742.2.2.1, r6 A3731 ((t3722.2.2.2.2.2.2).length) n3733 t3742.2.2.2] w3744) := ⟨HS.out.call hS⟩
      clear hS
      by_cases c3745 : t3736.1 = 1
      · replace H := if_yes c3745 H
        have c3745b0 : (t3736.1 == 1) = true := beq_iff_eq.mpr c3745
        have c3745b1 : (t3736.1 != 1) = false := bne_eq_false_iff_eq.mpr c3745
        clear c3745
        by_cases c3746 : t3739.1 = 2
        · replace H := if_yes c3746 H
          have c3746b0 : (t3739.1 == 2) = true := beq_iff_eq.mpr c3746
          have c3746b1 : (t3739.1 != 2) = false := bne_eq_false_iff_eq.mpr c3746
          clear c3746
          by_cases c3747 : t3742.1 = 5
          · replace H := if_yes c3747 H
            have c3747b0 : (t3742.1 == 5) = true := beq_iff_eq.mpr c3747
            have c3747b1 : (t3742.1 != 5) = false := bne_eq_false_iff_eq.mpr c3747
            clear c3747
            by_cases c3748 : t3736.2.1 = 0
            · replace H := if_yes c3748 H
              have c3748b0 : (t3736.2.1 == 0) = true := beq_iff_eq.mpr c3748
              have c3748b1 : (t3736.2.1 != 0) = false := bne_eq_false_iff_eq.mpr c3748
              clear c3748
              by_cases c3749 : t3739.2.1 = 0
              · replace H := if_yes c3749 H
                have c3749b0 : (t3739.2.1 == 0) = true := beq_iff_eq.mpr c3749
                have c3749b1 : (t3739.2.1 != 0) = false := bne_eq_false_iff_eq.mpr c3749
                clear c3749
                by_cases c3750 : t3742.2.1 = 0
                · replace H := if_yes c3750 H
                  have c3750b0 : (t3742.2.1 == 0) = true := beq_iff_eq.mpr c3750
                  have c3750b1 : (t3742.2.1 != 0) = false := bne_eq_false_iff_eq.mpr c3750
                  clear c3750
                  go_wp2_with fail
                  obtain ⟨t3789, HA3790, H⟩ := bind_some H
                  refine (obj_Blocks.calls _ t3742.2.2.2 t3742.2.2.1 t3722.2.1 t3722.2.2.1 t3722.2.2.2.1 t3722.2.2.2.2.1 2 g3729 g3730 A3731 ((t3722.2.2.2.2.2.2).length) n3733 t3789 _ ⟨HGl0.out.pass HS.out⟩ ⟨HS.out.begin⟩ HA3790).mono ?_
                  rintro e_ w3791 ⟨rfl, hS⟩
                  replace HS : Aside0 (Sep (fps []) w [b8 g3729 g3730 t3722.2.1 t3722.2.2.1 t3722.2.2.2.1 t3722.2.2.2.2.1, b7 g3730 A3731 ((t3722.2.2.2.2.2.2).length) n3733 t3789.2, r6 A3731 ((t3722.2.2.2.2.2.2).length) n3733 t3742.2.2.2] w3791) := ⟨HS.out.call hS⟩
                  clear hS
                  by_cases c3792 : t3789.1 = 3
                  · replace H := if_yes c3792 H
                    have c3792b0 : (t3789.1 == 3) = true := beq_iff_eq.mpr c3792
                    have c3792b1 : (t3789.1 != 3) = false := bne_eq_false_iff_eq.mpr c3792
                    clear c3792
                    go_wp2_with fail
                    obtain ⟨t3793, HA3794, H⟩ := bind_some H
                    refine (obj_SetPtr.calls _ t3742.2.2.2 t3789.2 t3722.2.1 t3722.2.2.1 t3722.2.2.2.1 t3722.2.2.2.2.1 1 1 5 g3729 g3730 A3731 ((t3722.2.2.2.2.2.2).length) n3733 t3793 _ ⟨HGl0.out.pass HS.out⟩ ⟨HS.out.begin⟩ HA3794).mono ?_
                    rintro e_ w3795 ⟨rfl, hS⟩
                    replace HS : Aside0 (Sep (fps []) w [b8 g3729 g3730 t3722.2.1 t3722.2.2.1 t3722.2.2.2.1 t3722.2.2.2.2.1, b7 g3730 A3731 ((t3722.2.2.2.2.2.2).length) n3733 t3793.2.1, r6 A3731 ((t3722.2.2.2.2.2.2).length) n3733 t3793.2.2] w3795) := ⟨HS.out.call hS⟩
                    clear hS
                    by_cases c3796 : t3793.1 = 0
                    · replace H := if_yes c3796 H
                      have c3796b0 : (t3793.1 == 0) = true := beq_iff_eq.mpr c3796
                      have c3796b1 : (t3793.1 != 0) = false := bne_eq_false_iff_eq.mpr c3796
                      clear c3796
                      go_wp2_with fail
                      obtain ⟨t3797, HA3798, H⟩ := bind_some H
                      refine (obj_Ptr.calls _ t3793.2.2 t3793.2.1 t3722.2.1 t3722.2.2.1 t3722.2.2.2.1 t3722.2.2.2.2.1 1 1 g3729 g3730 A3731 ((t3722.2.2.2.2.2.2).length) n3733 t3797 _ ⟨HGl0.out.pass HS.out⟩ ⟨HS.out.begin⟩ HA3798).mono ?_
                      rintro e_ w3799 ⟨rfl, hS⟩
                      replace HS : Aside0 (Sep (fps []) w [b8 g3729 g3730 t3722.2.1 t3722.2.2.1 t3722.2.2.2.1 t3722.2.2.2.2.1, b7 g3730 A3731 ((t3722.2.2.2.2.2.2).length) n3733 t3797.2.2, r6 A3731 ((t3722.2.2.2.2.2.2).length) n3733 t3793.2.2] w3799) := ⟨HS.out.call hS⟩
                      clear hS
                      by_cases c3800 : t3797.1 = 5
                      · replace H := if_yes c3800 H
                        have c3800b0 : (t3797.1 == 5) = true := beq_iff_eq.mpr c3800
                        have c3800b1 : (t3797.1 != 5) = false := bne_eq_false_iff_eq.mpr c3800
                        clear c3800
                        by_cases c3801 : t3797.2.1 = 0
                        · replace H := if_yes c3801 H
                          have c3801b0 : (t3797.2.1 == 0) = true := beq_iff_eq.mpr c3801
                          have c3801b1 : (t3797.2.1 != 0) = false := bne_eq_false_iff_eq.mpr c3801
                          clear c3801
                          go_wp2_with fail
                          obtain ⟨t4104, HA4105, H⟩ := bind_some H
                          refine (obj_Shed.calls _ t3793.2.2 t3797.2.2 t3722.2.1 t3722.2.2.1 t3722.2.2.2.1 t3722.2.2.2.2.1 2 1 g3729 g3730 A3731 ((t3722.2.2.2.2.2.2).length) n3733 t4104 _ ⟨HGl0.out.pass HS.out⟩ ⟨HS.out.begin⟩ HA4105).mono ?_
                          rintro e_ w4106 ⟨rfl, hS⟩
                          replace HS : Aside0 (Sep (fps []) w [b8 g3729 g3730 t3722.2.1 t3722.2.2.1 t3722.2.2.2.1 t3722.2.2.2.2.1, b7 g3730 A3731 ((t3722.2.2.2.2.2.2).length) n3733 t4104.2.1, r6 A3731 ((t3722.2.2.2.2.2.2).length) n3733 t4104.2.2] w4106) := ⟨HS.out.call hS⟩
                          clear hS
                          by_cases c4107 : t4104.1 = true
                          · replace H := if_yes c4107 H
                            have c4107b0 : t4104.1 = true := c4107
                            have c4107b1 : (!t4104.1) = false := by rw [c4107b0]; rfl
                            clear c4107
                            go_wp2_with fail
                            obtain ⟨t4108, HA4109, H⟩ := bind_some H
                            refine (obj_Shed.calls _ t4104.2.2 t4104.2.1 t3722.2.1 t3722.2.2.1 t3722.2.2.2.1 t3722.2.2.2.2.1 2 1 g3729 g3730 A3731 ((t3722.2.2.2.2.2.2).length) n3733 t4108 _ ⟨HGl0.out.pass HS.out⟩ ⟨HS.out.begin⟩ HA4109).mono ?_
                            rintro e_ w4110 ⟨rfl, hS⟩
                            replace HS : Aside0 (Sep (fps []) w [b8 g3729 g3730 t3722.2.1 t3722.2.2.1 t3722.2.2.2.1 t3722.2.2.2.2.1, b7 g3730 A3731 ((t3722.2.2.2.2.2.2).length) n3733 t4108.2.1, r6 A3731 ((t3722.2.2.2.2.2.2).length) n3733 t4108.2.2] w4110) := ⟨HS.out.call hS⟩
                            clear hS
                            by_cases c4111 : t4108.1 = true
                            · replace H := if_yes c4111 H
                              have c4111b0 : t4108.1 = true := c4111
                              have c4111b1 : (!t4108.1) = false := by rw [c4111b0]; rfl
                              try rw [c4111b1]
                              clear c4111
                              replace HS : Aside0 (Sep (fps []) w [] w4110) := ⟨HS.out.sub (.cons _ (.cons _ (.cons _ .slnil)))⟩
                              go_wp2_with fail
                              go_ret
                              rw [← some_eq H]
                              exact ⟨(by first | rfl | (simp [IntKind.wrap_u32]; done)), HS.out⟩
                            · replace H := if_no c4111 H
                              have c4111b0 : t4108.1 = false := by simpa using c4111
                              have c4111b1 : (!t4108.1) = true := by rw [c4111b0]; rfl
                              try rw [c4111b1]
                              clear c4111
                              go_wp2_with fail
                              obtain ⟨t4267, HA4268, H⟩ := bind_some H
                              refine (pool_List.calls _ t4108.2.2 t4108.2.1 t3722.2.1 t3722.2.2.1 t3722.2.2.2.1 t3722.2.2.2.2.1 g3729 g3730 A3731 ((t3722.2.2.2.2.2.2).length) n3733 t4267 _ ⟨HGl0.out.pass HS.out⟩ ⟨HS.out.begin⟩ HA4268).mono ?_
                              rintro e_ w4269 ⟨A4271, m4272, n4273, rfl, hS⟩
                              replace HS : Aside0 (Sep (fps []) w [b8 g3729 g3730 t3722.2.1 t3722.2.2.1 t3722.2.2.2.1 t3722.2.2.2.2.1, b7 g3730 A3731 ((t3722.2.2.2.2.2.2).length) n3733 t4108.2.1, r6 A3731 ((t3722.2.2.2.2.2.2).length) n3733 t4108.2.2, r18 A4271 m4272 n4273 t4267] w4269) := ⟨HS.out.call hS⟩
                              clear hS
                              obtain rfl := (row_len (HS.out.at3)).symm
                              go_wp2_with (first | ((with_reducible refine gate_dst (N := 87) rfl ?_); refine slice_on (n := 2) ?hg (N := 87) ?hd (cs := #[.int .i64 3, .int .i64 5]) (t := 3) ?hr ?_; (case hd => rfl); (case hg => rfl); (case hr => first | (go_simp; done) | (go_simp; rfl)); intro g4275 hg w4276 hbox hb; replace HS : Aside0 (Sep (fps []) w [b8 g3729 g3730 t3722.2.1 t3722.2.2.1 t3722.2.2.2.1 t3722.2.2.2.2.1, b7 g3730 A3731 ((t3722.2.2.2.2.2.2).length) n3733 t4108.2.1, r6 A3731 ((t3722.2.2.2.2.2.2).length) n3733 t4108.2.2, r18 A4271 t4267.length n4273 t4267, b4 g4275 3 5] w4276) := ⟨HS.out.box hg hbox hb⟩; clear hg hbox hb))
                              obtain ⟨t4317, HA4318, H⟩ := bind_some H
                              refine (quitrentref01_Ints.calls _ t4267 [3, 5] A4271 n4273 (some ⟨g4275, 0, none⟩) 2 t4317 _ ⟨Rd.ownI (l := []) HS.out 3 rfl⟩ ⟨Rd.lit (l := []) (xs := [3, 5]) HS.out 4 rfl (by simp)⟩ ⟨HGl0.out.pass (l := []) HS.out⟩ ⟨Sep.start _⟩ HA4318).mono ?_
                              rintro e_ w4319 ⟨rfl, hS⟩
                              replace HS : Aside0 (Sep (fps []) w [b8 g3729 g3730 t3722.2.1 t3722.2.2.1 t3722.2.2.2.1 t3722.2.2.2.2.1, b7 g3730 A3731 ((t3722.2.2.2.2.2.2).length) n3733 t4108.2.1, r6 A3731 ((t3722.2.2.2.2.2.2).length) n3733 t4108.2.2, r18 A4271 t4267.length n4273 t4267, b4 g4275 3 5] w4319) := ⟨HS.out.call hS⟩
                              clear hS
                              replace HS : Aside0 (Sep (fps []) w [] w4319) := ⟨HS.out.sub (.cons _ (.cons _ (.cons _ (.cons _ (.cons _ .slnil)))))⟩
                              go_wp2_with fail
                              go_ret
                              rw [← some_eq H]
                              exact ⟨(by first | rfl | (simp [IntKind.wrap_u32]; done)), HS.out⟩
                          · replace H := if_no c4107 H
                            have c4107b0 : t4104.1 = false := by simpa using c4107
                            have c4107b1 : (!t4104.1) = true := by rw [c4107b0]; rfl
                            clear c4107
                            replace HS : Aside0 (Sep (fps []) w [] w4106) := ⟨HS.out.sub (.cons _ (.cons _ (.cons _ .slnil)))⟩
                            go_wp2_with fail
                            go_ret
                            rw [← some_eq H]
                            exact ⟨(by first | rfl | (simp [IntKind.wrap_u32]; done)), HS.out⟩
                        · replace H := if_no c3801 H
                          have c3801b0 : (t3797.2.1 == 0) = false := beq_eq_false_iff_ne.mpr c3801
                          have c3801b1 : (t3797.2.1 != 0) = true := bne_iff_ne.mpr c3801
                          clear c3801
                          replace HS : Aside0 (Sep (fps []) w [] w3799) := ⟨HS.out.sub (.cons _ (.cons _ (.cons _ .slnil)))⟩
                          go_wp2_with fail
                          go_ret
                          rw [← some_eq H]
                          exact ⟨(by first | rfl | (simp [IntKind.wrap_u32]; done)), HS.out⟩
                      · replace H := if_no c3800 H
                        have c3800b0 : (t3797.1 == 5) = false := beq_eq_false_iff_ne.mpr c3800
                        have c3800b1 : (t3797.1 != 5) = true := bne_iff_ne.mpr c3800
                        clear c3800
                        replace HS : Aside0 (Sep (fps []) w [] w3799) := ⟨HS.out.sub (.cons _ (.cons _ (.cons _ .slnil)))⟩
                        go_wp2_with fail
                        go_ret
                        rw [← some_eq H]
                        exact ⟨(by first | rfl | (simp [IntKind.wrap_u32]; done)), HS.out⟩
                    · replace H := if_no c3796 H
                      have c3796b0 : (t3793.1 == 0) = false := beq_eq_false_iff_ne.mpr c3796
                      have c3796b1 : (t3793.1 != 0) = true := bne_iff_ne.mpr c3796
                      clear c3796
                      replace HS : Aside0 (Sep (fps []) w [] w3795) := ⟨HS.out.sub (.cons _ (.cons _ (.cons _ .slnil)))⟩
                      go_wp2_with fail
                      go_ret
                      rw [← some_eq H]
                      exact ⟨(by first | rfl | (simp [IntKind.wrap_u32]; done)), HS.out⟩
                  · replace H := if_no c3792 H
                    have c3792b0 : (t3789.1 == 3) = false := beq_eq_false_iff_ne.mpr c3792
                    have c3792b1 : (t3789.1 != 3) = true := bne_iff_ne.mpr c3792
                    clear c3792
                    replace HS : Aside0 (Sep (fps []) w [] w3791) := ⟨HS.out.sub (.cons _ (.cons _ (.cons _ .slnil)))⟩
                    go_wp2_with fail
                    go_ret
                    rw [← some_eq H]
                    exact ⟨(by first | rfl | (simp [IntKind.wrap_u32]; done)), HS.out⟩
                · replace H := if_no c3750 H
                  have c3750b0 : (t3742.2.1 == 0) = false := beq_eq_false_iff_ne.mpr c3750
                  have c3750b1 : (t3742.2.1 != 0) = true := bne_iff_ne.mpr c3750
                  clear c3750
                  replace HS : Aside0 (Sep (fps []) w [] w3744) := ⟨HS.out.sub (.cons _ (.cons _ (.cons _ .slnil)))⟩
                  go_wp2_with fail
                  go_ret
                  rw [← some_eq H]
                  exact ⟨(by first | rfl | (simp [IntKind.wrap_u32]; done)), HS.out⟩
              · replace H := if_no c3749 H
                have c3749b0 : (t3739.2.1 == 0) = false := beq_eq_false_iff_ne.mpr c3749
                have c3749b1 : (t3739.2.1 != 0) = true := bne_iff_ne.mpr c3749
                clear c3749
                replace HS : Aside0 (Sep (fps []) w [] w3744) := ⟨HS.out.sub (.cons _ (.cons _ (.cons _ .slnil)))⟩
                go_wp2_with fail
                go_ret
                rw [← some_eq H]
                exact ⟨(by first | rfl | (simp [IntKind.wrap_u32]; done)), HS.out⟩
            · replace H := if_no c3748 H
              have c3748b0 : (t3736.2.1 == 0) = false := beq_eq_false_iff_ne.mpr c3748
              have c3748b1 : (t3736.2.1 != 0) = true := bne_iff_ne.mpr c3748
              clear c3748
              replace HS : Aside0 (Sep (fps []) w [] w3744) := ⟨HS.out.sub (.cons _ (.cons _ (.cons _ .slnil)))⟩
              go_wp2_with fail
              go_ret
              rw [← some_eq H]
              exact ⟨(by first | rfl | (simp [IntKind.wrap_u32]; done)), HS.out⟩
          · replace H := if_no c3747 H
            have c3747b0 : (t3742.1 == 5) = false := beq_eq_false_iff_ne.mpr c3747
            have c3747b1 : (t3742.1 != 5) = true := bne_iff_ne.mpr c3747
            clear c3747
            replace HS : Aside0 (Sep (fps []) w [] w3744) := ⟨HS.out.sub (.cons _ (.cons _ (.cons _ .slnil)))⟩
            go_wp2_with fail
            go_ret
            rw [← some_eq H]
            exact ⟨(by first | rfl | (simp [IntKind.wrap_u32]; done)), HS.out⟩
        · replace H := if_no c3746 H
          have c3746b0 : (t3739.1 == 2) = false := beq_eq_false_iff_ne.mpr c3746
          have c3746b1 : (t3739.1 != 2) = true := bne_iff_ne.mpr c3746
          clear c3746
          replace HS : Aside0 (Sep (fps []) w [] w3744) := ⟨HS.out.sub (.cons _ (.cons _ (.cons _ .slnil)))⟩
          go_wp2_with fail
          go_ret
          rw [← some_eq H]
          exact ⟨(by first | rfl | (simp [IntKind.wrap_u32]; done)), HS.out⟩
      · replace H := if_no c3745 H
        have c3745b0 : (t3736.1 == 1) = false := beq_eq_false_iff_ne.mpr c3745
        have c3745b1 : (t3736.1 != 1) = true := bne_iff_ne.mpr c3745
        clear c3745
        replace HS : Aside0 (Sep (fps []) w [] w3744) := ⟨HS.out.sub (.cons _ (.cons _ (.cons _ .slnil)))⟩
        go_wp2_with fail
        go_ret
        rw [← some_eq H]
        exact ⟨(by first | rfl | (simp [IntKind.wrap_u32]; done)), HS.out⟩
    · replace H := if_no c3735 H
      have c3735b0 : t3722.1 = false := by simpa using c3735
      have c3735b1 : (!t3722.1) = true := by rw [c3735b0]; rfl
      try rw [c3735b1]
      clear c3735
      replace HS : Aside0 (Sep (fps []) w [] w3725) := ⟨HS.out.sub (.cons _ (.cons _ (.cons _ .slnil)))⟩
      go_wp2_with fail
      go_ret
      rw [← some_eq H]
      exact ⟨(by first | rfl | (simp [IntKind.wrap_u32]; done)), HS.out⟩

set_option maxHeartbeats 30000000 in
set_option maxRecDepth 100000 in
theorem quitrentref01_Same.calls (k : Nat) (l4332 : List Int) (l4336 : List Int) (A4333 : Option Addr) (n4334 : Nat) (A4337 : Option Addr) (n4338 : Nat) (r : Bool) (w : World) (HR4335 : Aside0 (Rd (Kd.int .u32) (fps []) w A4333 l4332.length l4332)) (HR4339 : Aside0 (Rd (Kd.int .u32) (fps []) w A4337 l4336.length l4336)) (HGl0 : Aside0 (Gl 0 #[.int .i64 0, .int .i64 0, .int .i64 0, .int .i64 0, .int .i64 0] (fps []) w)) (HS : Aside0 (Sep (fps []) w [] w)) (H : Aside0 (quitrentref01_Same.f k l4332 l4336 = some r)) :
    Calls Tryd.prog 40 #[.slice A4333 l4332.length n4334, .slice A4337 l4336.length n4338] w fun e w' => e = .returned (.bool r) ∧ Sep (fps []) w [] w' := by
  unfold quitrentref01_Same.f at H
  go_enter Tryd.func40, Tryd.ntmps40
  by_cases c4340 : (l4332.length : Int) = (l4336.length : Int)
  · replace H := if_yes c4340 H
    have c4340b0 : ((l4332.length : Int) == (l4336.length : Int)) = true := beq_iff_eq.mpr c4340
    have c4340b1 : ((l4332.length : Int) != (l4336.length : Int)) = false := bne_eq_false_iff_eq.mpr c4340
    clear c4340
    go_wp2_with fail
    obtain ⟨o4356, AL4357, H⟩ := bind_some H
    go_loopg [5] k (fun kq v5 wc => ∃ (x4360 : Int), v5 = .int .i64 x4360 ∧ Aside0 (quitrentref01_Same.lo0 kq l4332 l4336 x4360 = some o4356) ∧ Aside0 (Sep (fps []) w [] wc))
    case atStart => exact ⟨(0), (by first | rfl | (simp [IntKind.wrap_u32]; done)), AL4357, ⟨HS.out⟩⟩
    case round =>
      clear AL4357 HS
      obtain ⟨x4360, rfl, AL4357, HS⟩ := hrel
      obtain ⟨w4358, rfl⟩ : ∃ x : World, x = wr := ⟨_, rfl⟩
      cases gk with
      | zero => exact absurd AL4357.out (by simp [quitrentref01_Same.lo0])
      | succ k4359 =>
        have AL0 := AL4357.out
        rw [quitrentref01_Same.lo0] at AL0
        clear AL4357
        have AL4357 := Aside0.mk AL0
        clear AL0
        by_cases c4361 : x4360 < (l4332.length : Int)
        · replace AL4357 := if_yes c4361 AL4357
          have c4361b0 : decide (x4360 < (l4332.length : Int)) = true := decide_eq_true c4361
          clear c4361
          go_wp2_with fail
          refine start_ (n := 9) (S := (fun w' => Kd.C (Kd.int .u32) w' A4333 l4332.length l4332 ∧ Kd.C (Kd.int .u32) w' A4337 l4336.length l4336)) (ds := []) #[false, false, false, false, false, false, false, false, false] (by kernel_rfl) rfl rfl (⟨Rd.read (fun _ _ _ _ h => h) HR4335.out (HS.out.drew).fr, Rd.read (fun _ _ _ _ h => h) HR4339.out (HS.out.drew).fr⟩) (fun hHeld => ?_)
          have HS_ := Aside0.mk HS.out.drew
          clear HS
          generalize World.drew _ = w4363 at HS_ hHeld ⊢
          have HS := HS_
          clear HS_
          refine pure_ (i := 0) (N := some 17) (v := ?_) (a' := ?_) #[true, false, false, false, false, false, false, false, false] rfl rfl (by kernel_rfl) (fun _ _ _ h => h) (Or.inl ⟨by rfl, ?_⟩) ?_ ?_
          rotate_left
          · intro w'
            go_simp
            with_reducible rfl
          rotate_left
          · simp only [Act.put, List.setIfInBounds_toArray, List.set_cons_zero, List.set_cons_succ, i64_w, i32_w]
            rfl
          refine pure_ (i := 1) (N := some 18) (v := ?_) (a' := ?_) #[true, true, false, false, false, false, false, false, false] rfl rfl (by kernel_rfl) (fun _ _ _ h => h) (Or.inl ⟨by rfl, ?_⟩) ?_ ?_
          rotate_left
          · intro w'
            go_simp
            with_reducible rfl
          rotate_left
          · simp only [Act.put, List.setIfInBounds_toArray, List.set_cons_zero, List.set_cons_succ, i64_w, i32_w]
            rfl
          by_cases c4364 : 0 ≤ x4360
          · replace AL4357 := if_yes c4364 AL4357
            have c4364b0 : decide (0 ≤ x4360) = true := decide_eq_true c4364
            have c4364p : (0 ≤ x4360) = True := eq_true c4364
            clear c4364
            have ip4365 : (x4360 < (l4332.length : Int)) = True := eq_true (of_decide_eq_true c4361b0)
            obtain ⟨ad4366, ea, _⟩ := Kd.at_int (Rd.read (fun _ _ _ _ h => h) HR4335.out HS.out.fr) x4360 (of_decide_eq_true c4364b0) (of_decide_eq_true c4361b0)
            cases ea
            refine pure_ (i := 2) (N := some 19) (v := ?_) (a' := ?_) #[true, true, true, false, false, false, false, false, false] rfl rfl (by kernel_rfl) (fun _ _ _ h => h) (Or.inl ⟨by rfl, ?_⟩) ?_ ?_
            rotate_left
            · intro w'
              go_simp
              with_reducible rfl
            rotate_left
            · simp only [Act.put, List.setIfInBounds_toArray, List.set_cons_zero, List.set_cons_succ, i64_w, i32_w]
              rfl
            refine pure_ (i := 4) (N := some 21) (v := ?_) (a' := ?_) #[true, true, true, false, true, false, false, false, false] rfl rfl (by kernel_rfl) (fun _ _ _ h => h) (Or.inl ⟨by rfl, ?_⟩) ?_ ?_
            rotate_left
            · intro w'
              go_simp
              with_reducible rfl
            rotate_left
            · simp only [Act.put, List.setIfInBounds_toArray, List.set_cons_zero, List.set_cons_succ, i64_w, i32_w]
              rfl
            refine pure_ (i := 5) (N := some 22) (v := ?_) (a' := ?_) #[true, true, true, false, true, true, false, false, false] rfl rfl (by kernel_rfl) (fun _ _ _ h => h) (Or.inl ⟨by rfl, ?_⟩) ?_ ?_
            rotate_left
            · intro w'
              go_simp
              with_reducible rfl
            rotate_left
            · simp only [Act.put, List.setIfInBounds_toArray, List.set_cons_zero, List.set_cons_succ, i64_w, i32_w]
              rfl
            by_cases c4367 : x4360 < (l4336.length : Int)
            · replace AL4357 := if_yes c4367 AL4357
              have c4367b0 : decide (x4360 < (l4336.length : Int)) = true := decide_eq_true c4367
              have c4367p : (x4360 < (l4336.length : Int)) = True := eq_true c4367
              clear c4367
              obtain ⟨ad4368, ea, _⟩ := Kd.at_int (Rd.read (fun _ _ _ _ h => h) HR4339.out HS.out.fr) x4360 (of_decide_eq_true c4364b0) (of_decide_eq_true c4367b0)
              cases ea
              refine pure_ (i := 6) (N := some 23) (v := ?_) (a' := ?_) #[true, true, true, false, true, true, true, false, false] rfl rfl (by kernel_rfl) (fun _ _ _ h => h) (Or.inl ⟨by rfl, ?_⟩) ?_ ?_
              rotate_left
              · intro w'
                go_simp
                with_reducible rfl
              rotate_left
              · simp only [Act.put, List.setIfInBounds_toArray, List.set_cons_zero, List.set_cons_succ, i64_w, i32_w]
                rfl
              refine take_ (i := 3) (N := some 20) (v := ?_) (a' := ?_) #[true, true, true, true, true, true, true, false, false] rfl rfl (by kernel_rfl) (fun _ _ _ h => h) (Or.inl ⟨by rfl, ?_⟩) hHeld ?_ ?_
              rotate_left
              · rintro w' hS'
                obtain ⟨s0, s1⟩ := hS'
                have hx := C_at_int s0 x4360 (of_decide_eq_true c4364b0) (of_decide_eq_true c4361b0)
                go_simp
                with_reducible rfl
              rotate_left
              · simp only [Act.put, List.setIfInBounds_toArray, List.set_cons_zero, List.set_cons_succ, i64_w, i32_w]
                rfl
              refine take_ (i := 7) (N := some 24) (v := ?_) (a' := ?_) #[true, true, true, true, true, true, true, true, false] rfl rfl (by kernel_rfl) (fun _ _ _ h => h) (Or.inl ⟨by rfl, ?_⟩) hHeld ?_ ?_
              rotate_left
              · rintro w' hS'
                obtain ⟨s0, s1⟩ := hS'
                have hx := C_at_int s1 x4360 (of_decide_eq_true c4364b0) (of_decide_eq_true c4367b0)
                go_simp
                with_reducible rfl
              rotate_left
              · simp only [Act.put, List.setIfInBounds_toArray, List.set_cons_zero, List.set_cons_succ, i64_w, i32_w]
                rfl
              refine pure_ (i := 8) (N := some 25) (v := ?_) (a' := ?_) #[true, true, true, true, true, true, true, true, true] rfl rfl (by kernel_rfl) (fun _ _ _ h => h) (Or.inl ⟨by rfl, ?_⟩) ?_ ?_
              rotate_left
              · intro w'
                go_simp
                with_reducible rfl
              rotate_left
              · simp only [Act.put, List.setIfInBounds_toArray, List.set_cons_zero, List.set_cons_succ, i64_w, i32_w]
                rfl
              refine done_ (by kernel_rfl) ?_
              by_cases c4369 : (rd l4332 x4360) = (rd l4336 x4360)
              · replace AL4357 := if_yes c4369 AL4357
                have c4369b0 : ((rd l4332 x4360) == (rd l4336 x4360)) = true := beq_iff_eq.mpr c4369
                have c4369b1 : ((rd l4332 x4360) != (rd l4336 x4360)) = false := bne_eq_false_iff_eq.mpr c4369
                clear c4369
                go_wp2_with fail
                go_roundg k4359
                case measure => exact Nat.lt_succ_self _
                case rel => exact ⟨(wrap64 (x4360 + 1)), (by first | rfl | (simp [IntKind.wrap_u32]; done)), Aside0.mk AL4357.out, ⟨HS.out⟩⟩
              · replace AL4357 := if_no c4369 AL4357
                have c4369b0 : ((rd l4332 x4360) == (rd l4336 x4360)) = false := beq_eq_false_iff_ne.mpr c4369
                have c4369b1 : ((rd l4332 x4360) != (rd l4336 x4360)) = true := bne_iff_ne.mpr c4369
                clear c4369
                go_wp2_with fail
                have ho := some_eq AL4357
                subst ho
                have H := lp_ret H
                go_ret
                rw [← some_eq H]
                exact ⟨(by first | rfl | (simp [IntKind.wrap_u32]; done)), HS.out⟩
            · replace AL4357 := if_no c4367 AL4357
              have c4367b0 : decide (x4360 < (l4336.length : Int)) = false := decide_eq_false c4367
              clear c4367
              exact (none_no AL4357).elim
          · replace AL4357 := if_no c4364 AL4357
            have c4364b0 : decide (0 ≤ x4360) = false := decide_eq_false c4364
            clear c4364
            exact (none_no AL4357).elim
        · replace AL4357 := if_no c4361 AL4357
          have c4361b0 : decide (x4360 < (l4332.length : Int)) = false := decide_eq_false c4361
          clear c4361
          have ho := some_eq AL4357
          subst ho
          clear AL4357
          have H := lp_out H
          go_wp2_with fail
          go_ret
          rw [← some_eq H]
          exact ⟨(by first | rfl | (simp [IntKind.wrap_u32]; done)), HS.out⟩
  · replace H := if_no c4340 H
    have c4340b0 : ((l4332.length : Int) == (l4336.length : Int)) = false := beq_eq_false_iff_ne.mpr c4340
    have c4340b1 : ((l4332.length : Int) != (l4336.length : Int)) = true := bne_iff_ne.mpr c4340
    clear c4340
    go_wp2_with fail
    go_ret
    rw [← some_eq H]
    exact ⟨(by first | rfl | (simp [IntKind.wrap_u32]; done)), HS.out⟩

set_option maxHeartbeats 30000000 in
set_option maxRecDepth 100000 in
theorem quitrentlaw11_ObjApart.calls (k : Nat) (a1 : Int) (a2 : Int) (a3 : Int) (a4 : Int) (a5 : Int) (a6 : Int) (a7 : Int) (r : Bool) (w : World)  (HGl0 : Aside0 (Gl 0 #[.int .i64 0, .int .i64 0, .int .i64 0, .int .i64 0, .int .i64 0] (fps []) w)) (HS : Aside0 (Sep (fps []) w [] w)) (H : Aside0 (quitrentlaw11_ObjApart.f k a1 a2 a3 a4 a5 a6 a7 = some r)) :
    Calls Tryd.prog 11 #[.agg #[.int .i64 a1, .int .i64 a2], .agg #[.int .i64 a3, .int .i64 a4], .int .i64 a5, .int .i64 a6, .int .u32 a7] w fun e w' => e = .returned (.bool r) ∧ Sep (fps []) w [] w' := by
  unfold quitrentlaw11_ObjApart.f at H
  go_enter Tryd.func11, Tryd.ntmps11
  go_wp2_with (first | ((with_reducible refine gate_dst (N := 5) rfl ?_); refine box_on ?hg (N := 5) ?hd (cs := #[.int .i64 a1, .int .i64 a2]) (t := 63) ?hr ?_; (case hd => rfl); (case hg => rfl); (case hr => first | (go_simp; done) | (go_simp; rfl)); intro g8 hg w9 hbox hb; replace HS : Aside0 (Sep (fps []) w [b1 g8 a1 a2] w9) := ⟨HS.out.box hg hbox hb⟩; clear hg hbox hb) | ((with_reducible refine gate_dst (N := 6) rfl ?_); refine box_on ?hg (N := 6) ?hd (cs := #[.int .i64 a3, .int .i64 a4]) (t := 63) ?hr ?_; (case hd => rfl); (case hg => rfl); (case hr => first | (go_simp; done) | (go_simp; rfl)); intro g11 hg w12 hbox hb; replace HS : Aside0 (Sep (fps []) w [b1 g8 a1 a2, b1 g11 a3 a4] w12) := ⟨HS.out.box hg hbox hb⟩; clear hg hbox hb))
  obtain ⟨t1608, HA1609, H⟩ := bind_some H
  rcases t1608 with t1610 | t1611
  · have H := sum_l H
    refine (quitrentlaw11_opened.calls _ 40 16 1 1 (.inl t1610) _ ⟨HGl0.out.pass (l := []) HS.out⟩ ⟨Sep.start _⟩ HA1609).mono ?_
    rintro e_ w1612 ⟨rfl, hS⟩
    replace HS : Aside0 (Sep (fps []) w [b1 g8 a1 a2, b1 g11 a3 a4] w1612) := ⟨HS.out.call hS⟩
    clear hS
    by_cases c1613 : t1610 = true
    · replace H := if_yes c1613 H
      have c1613b0 : t1610 = true := c1613
      have c1613b1 : (!t1610) = false := by rw [c1613b0]; rfl
      try rw [c1613b1]
      clear c1613
      exact (none_no H).elim
    · replace H := if_no c1613 H
      have c1613b0 : t1610 = false := by simpa using c1613
      have c1613b1 : (!t1610) = true := by rw [c1613b0]; rfl
      try rw [c1613b1]
      clear c1613
      replace HS : Aside0 (Sep (fps []) w [] w1612) := ⟨HS.out.sub (.cons _ (.cons _ .slnil))⟩
      go_wp2_with fail
      go_ret
      rw [← some_eq H]
      exact ⟨(by first | rfl | (simp [IntKind.wrap_u32]; done)), HS.out⟩
  · have H := sum_r H
    refine (quitrentlaw11_opened.calls _ 40 16 1 1 (.inr t1611) _ ⟨HGl0.out.pass (l := []) HS.out⟩ ⟨Sep.start _⟩ HA1609).mono ?_
    rintro e_ w1616 ⟨g1620, rfl, g1621, A1622, m1623, n1624, hS⟩
    replace HS : Aside0 (Sep (fps []) w [b8 g1620 g1621 t1611.2.1 t1611.2.2.1 t1611.2.2.2.1 t1611.2.2.2.2.1, b7 g1621 A1622 m1623 n1624 t1611.2.2.2.2.2.1, r6 A1622 m1623 n1624 t1611.2.2.2.2.2.2, b1 g8 a1 a2, b1 g11 a3 a4] w1616) := ⟨HS.out.call hS⟩
    clear hS
    obtain rfl := (row_len (HS.out.at2)).symm
    by_cases c1626 : t1611.1 = true
    · replace H := if_yes c1626 H
      have c1626b0 : t1611.1 = true := c1626
      have c1626b1 : (!t1611.1) = false := by rw [c1626b0]; rfl
      try rw [c1626b1]
      clear c1626
      have hc1627 : w1616.cell? ⟨g8, 0, none⟩ = some (.int .i64 a1) := blk_cellv (HS.out.at3) 0 rfl
      have hc1628 : w1616.cell? ⟨g8, 1, none⟩ = some (.int .i64 a2) := blk_cellv (HS.out.at3) 1 rfl
      go_wp2_with fail
      clear hc1627 hc1628
      obtain ⟨t2552, HA2553, H⟩ := bind_some H
      refine (obj_Make.calls _ t1611.2.2.2.2.2.2 t1611.2.2.2.2.2.1 t1611.2.1 t1611.2.2.1 t1611.2.2.2.1 t1611.2.2.2.2.1 a1 a2 g1620 g1621 A1622 ((t1611.2.2.2.2.2.2).length) n1624 t2552 _ ⟨HGl0.out.pass HS.out⟩ ⟨HS.out.begin⟩ HA2553).mono ?_
      rintro e_ w2554 ⟨rfl, hS⟩
      replace HS : Aside0 (Sep (fps []) w [b8 g1620 g1621 t1611.2.1 t1611.2.2.1 t1611.2.2.2.1 t1611.2.2.2.2.1, b7 g1621 A1622 ((t1611.2.2.2.2.2.2).length) n1624 t2552.2.2.1, r6 A1622 ((t1611.2.2.2.2.2.2).length) n1624 t2552.2.2.2, b1 g8 a1 a2, b1 g11 a3 a4] w2554) := ⟨HS.out.call hS⟩
      clear hS
      replace HS : Aside0 (Sep (fps []) w [b8 g1620 g1621 t1611.2.1 t1611.2.2.1 t1611.2.2.2.1 t1611.2.2.2.2.1, b7 g1621 A1622 ((t1611.2.2.2.2.2.2).length) n1624 t2552.2.2.1, r6 A1622 ((t1611.2.2.2.2.2.2).length) n1624 t2552.2.2.2, b1 g11 a3 a4] w2554) := ⟨HS.out.sub (.cons_cons _ (.cons_cons _ (.cons_cons _ (.cons _ (.cons_cons _ .slnil)))))⟩
      have hc2555 : w2554.cell? ⟨g11, 0, none⟩ = some (.int .i64 a3) := blk_cellv (HS.out.at3) 0 rfl
      have hc2556 : w2554.cell? ⟨g11, 1, none⟩ = some (.int .i64 a4) := blk_cellv (HS.out.at3) 1 rfl
      go_wp2_with fail
      clear hc2555 hc2556
      obtain ⟨t2557, HA2558, H⟩ := bind_some H
      refine (obj_Make.calls _ t2552.2.2.2 t2552.2.2.1 t1611.2.1 t1611.2.2.1 t1611.2.2.2.1 t1611.2.2.2.2.1 a3 a4 g1620 g1621 A1622 ((t1611.2.2.2.2.2.2).length) n1624 t2557 _ ⟨HGl0.out.pass HS.out⟩ ⟨HS.out.begin⟩ HA2558).mono ?_
      rintro e_ w2559 ⟨rfl, hS⟩
      replace HS : Aside0 (Sep (fps []) w [b8 g1620 g1621 t1611.2.1 t1611.2.2.1 t1611.2.2.2.1 t1611.2.2.2.2.1, b7 g1621 A1622 ((t1611.2.2.2.2.2.2).length) n1624 t2557.2.2.1, r6 A1622 ((t1611.2.2.2.2.2.2).length) n1624 t2557.2.2.2, b1 g11 a3 a4] w2559) := ⟨HS.out.call hS⟩
      clear hS
      by_cases c2560 : t2552.2.1 = 0
      · replace H := if_yes c2560 H
        have c2560b0 : (t2552.2.1 == 0) = true := beq_iff_eq.mpr c2560
        have c2560b1 : (t2552.2.1 != 0) = false := bne_eq_false_iff_eq.mpr c2560
        clear c2560
        by_cases c2561 : t2557.2.1 = 0
        · replace H := if_yes c2561 H
          have c2561b0 : (t2557.2.1 == 0) = true := beq_iff_eq.mpr c2561
          have c2561b1 : (t2557.2.1 != 0) = false := bne_eq_false_iff_eq.mpr c2561
          clear c2561
          replace HS : Aside0 (Sep (fps []) w [b8 g1620 g1621 t1611.2.1 t1611.2.2.1 t1611.2.2.2.1 t1611.2.2.2.2.1, b7 g1621 A1622 ((t1611.2.2.2.2.2.2).length) n1624 t2557.2.2.1, r6 A1622 ((t1611.2.2.2.2.2.2).length) n1624 t2557.2.2.2] w2559) := ⟨HS.out.sub (.cons_cons _ (.cons_cons _ (.cons_cons _ (.cons _ .slnil))))⟩
          go_wp2_with fail
          obtain ⟨t3112, HA3113, H⟩ := bind_some H
          refine (obj_See.calls _ t2557.2.2.2 t2557.2.2.1 t1611.2.1 t1611.2.2.1 t1611.2.2.2.1 t1611.2.2.2.2.1 t2552.1 g1620 g1621 A1622 ((t1611.2.2.2.2.2.2).length) n1624 t3112 _ ⟨HGl0.out.pass HS.out⟩ ⟨HS.out.begin⟩ HA3113).mono ?_
          rintro e_ w3114 ⟨A3117, m3118, n3119, A3121, m3122, n3123, rfl, hS⟩
          replace HS : Aside0 (Sep (fps []) w [b8 g1620 g1621 t1611.2.1 t1611.2.2.1 t1611.2.2.2.1 t1611.2.2.2.2.1, b7 g1621 A1622 ((t1611.2.2.2.2.2.2).length) n1624 t2557.2.2.1, r6 A1622 ((t1611.2.2.2.2.2.2).length) n1624 t2557.2.2.2, r18 A3117 m3118 n3119 t3112.2.1, r6 A3121 m3122 n3123 t3112.2.2] w3114) := ⟨HS.out.call hS⟩
          clear hS
          obtain rfl := (row_len (HS.out.at3)).symm
          obtain rfl := (row_len (HS.out.at4)).symm
          go_wp2_with (first | ((with_reducible refine gate_dst (N := 17) rfl ?_); refine box_on ?hg (N := 17) ?hd (cs := #[.slice none 0 0, .slice none 0 0]) (t := 71) ?hr ?_; (case hd => rfl); (case hg => rfl); (case hr => first | (go_simp; done) | (go_simp; rfl)); intro g3125 hg w3126 hbox hb; replace HS : Aside0 (Sep (fps []) w [b8 g1620 g1621 t1611.2.1 t1611.2.2.1 t1611.2.2.2.1 t1611.2.2.2.2.1, b7 g1621 A1622 ((t1611.2.2.2.2.2.2).length) n1624 t2557.2.2.1, r6 A1622 ((t1611.2.2.2.2.2.2).length) n1624 t2557.2.2.2, r18 A3117 ((t3112.2.1).length) n3119 t3112.2.1, r6 A3121 ((t3112.2.2).length) n3123 t3112.2.2, b17 g3125] w3126) := ⟨HS.out.box hg hbox hb⟩; clear hg hbox hb; replace HS : Aside0 (Sep (fps []) w [r18 none 0 0 [], b8 g1620 g1621 t1611.2.1 t1611.2.2.1 t1611.2.2.2.1 t1611.2.2.2.2.1, b7 g1621 A1622 ((t1611.2.2.2.2.2.2).length) n1624 t2557.2.2.1, r6 A1622 ((t1611.2.2.2.2.2.2).length) n1624 t2557.2.2.2, r18 A3117 ((t3112.2.1).length) n3119 t3112.2.1, r6 A3121 ((t3112.2.2).length) n3123 t3112.2.2, b19 g3125 none 0 0] w3126) := ⟨HS.out.nilrow 3 (Value.int .i64)⟩; replace HS : Aside0 (Sep (fps []) w [r6 none 0 0 [], r18 none 0 0 [], b8 g1620 g1621 t1611.2.1 t1611.2.2.1 t1611.2.2.2.1 t1611.2.2.2.2.1, b7 g1621 A1622 ((t1611.2.2.2.2.2.2).length) n1624 t2557.2.2.1, r6 A1622 ((t1611.2.2.2.2.2.2).length) n1624 t2557.2.2.2, r18 A3117 ((t3112.2.1).length) n3119 t3112.2.1, r6 A3121 ((t3112.2.2).length) n3123 t3112.2.2, b20 g3125 none 0 0 none 0 0] w3126) := ⟨HS.out.nilrow 33 (Value.int .u32)⟩; have hc3132 : w3126.cell? ⟨g3125, 0, none⟩ = some (.slice none 0 0) := blk_cellv (HS.out.at7) 0 rfl; have hz3133 : w3126.frozen? ⟨g3125, 0, none⟩ = false := blk_fz (HS.out.at7) 0; have hc3134 : w3126.cell? ⟨g3125, 1, none⟩ = some (.slice none 0 0) := blk_cellv (HS.out.at7) 1 rfl; have hz3135 : w3126.frozen? ⟨g3125, 1, none⟩ = false := blk_fz (HS.out.at7) 1) | ((with_reducible refine gate_store (t := 71) (p := 17) rfl ?_); refine store_event (w1 := (World.setCell (World.setCell w3126 ⟨g3125, 0, none⟩ (.slice A3117 ((t3112.2.1).length) n3119)) ⟨g3125, 1, none⟩ (.slice A3121 ((t3112.2.2).length) n3123))) rfl (t := 71) (p := 17) rfl rfl ?hr ?_; (case hr => first | (go_simp; done) | (go_simp; rfl)); intro w3136 hst; clear hc3132 hz3133 hc3134 hz3135; have hq0 : Sep (fps []) w [r6 none 0 0 [], r18 none 0 0 [], b8 g1620 g1621 t1611.2.1 t1611.2.2.1 t1611.2.2.2.1 t1611.2.2.2.2.1, b7 g1621 A1622 ((t1611.2.2.2.2.2.2).length) n1624 t2557.2.2.1, r6 A1622 ((t1611.2.2.2.2.2.2).length) n1624 t2557.2.2.2, r18 A3117 ((t3112.2.1).length) n3119 t3112.2.1, r6 A3121 ((t3112.2.2).length) n3123 t3112.2.2, b20 g3125 A3117 ((t3112.2.1).length) n3119 none 0 0] (World.setCell w3126 ⟨g3125, 0, none⟩ (.slice A3117 ((t3112.2.1).length) n3119)) := (HS.out).set1 (l1 := [r6 none 0 0 [], r18 none 0 0 [], b8 g1620 g1621 t1611.2.1 t1611.2.2.1 t1611.2.2.2.1 t1611.2.2.2.2.1, b7 g1621 A1622 ((t1611.2.2.2.2.2.2).length) n1624 t2557.2.2.1, r6 A1622 ((t1611.2.2.2.2.2.2).length) n1624 t2557.2.2.2, r18 A3117 ((t3112.2.1).length) n3119 t3112.2.1, r6 A3121 ((t3112.2.2).length) n3123 t3112.2.2]) (l2 := []) 0 (.slice A3117 ((t3112.2.1).length) n3119); have hq1 : Sep (fps []) w [r6 none 0 0 [], r18 none 0 0 [], b8 g1620 g1621 t1611.2.1 t1611.2.2.1 t1611.2.2.2.1 t1611.2.2.2.2.1, b7 g1621 A1622 ((t1611.2.2.2.2.2.2).length) n1624 t2557.2.2.1, r6 A1622 ((t1611.2.2.2.2.2.2).length) n1624 t2557.2.2.2, r18 A3117 ((t3112.2.1).length) n3119 t3112.2.1, r6 A3121 ((t3112.2.2).length) n3123 t3112.2.2, b20 g3125 A3117 ((t3112.2.1).length) n3119 A3121 ((t3112.2.2).length) n3123] (World.setCell (World.setCell w3126 ⟨g3125, 0, none⟩ (.slice A3117 ((t3112.2.1).length) n3119)) ⟨g3125, 1, none⟩ (.slice A3121 ((t3112.2.2).length) n3123)) := (hq0).set1 (l1 := [r6 none 0 0 [], r18 none 0 0 [], b8 g1620 g1621 t1611.2.1 t1611.2.2.1 t1611.2.2.2.1 t1611.2.2.2.2.1, b7 g1621 A1622 ((t1611.2.2.2.2.2.2).length) n1624 t2557.2.2.1, r6 A1622 ((t1611.2.2.2.2.2.2).length) n1624 t2557.2.2.2, r18 A3117 ((t3112.2.1).length) n3119 t3112.2.1, r6 A3121 ((t3112.2.2).length) n3123 t3112.2.2]) (l2 := []) 1 (.slice A3121 ((t3112.2.2).length) n3123); replace HS : Aside0 (Sep (fps []) w [r6 none 0 0 [], r18 none 0 0 [], b8 g1620 g1621 t1611.2.1 t1611.2.2.1 t1611.2.2.2.1 t1611.2.2.2.2.1, b7 g1621 A1622 ((t1611.2.2.2.2.2.2).length) n1624 t2557.2.2.1, r6 A1622 ((t1611.2.2.2.2.2.2).length) n1624 t2557.2.2.2, r18 A3117 ((t3112.2.1).length) n3119 t3112.2.1, r6 A3121 ((t3112.2.2).length) n3123 t3112.2.2, b20 g3125 A3117 ((t3112.2.1).length) n3119 A3121 ((t3112.2.2).length) n3123] w3136) := ⟨by rw [hst]; exact hq1⟩; clear hq0 hq1; clear hst; replace HS : Aside0 (Sep (fps []) w [b8 g1620 g1621 t1611.2.1 t1611.2.2.1 t1611.2.2.2.1 t1611.2.2.2.2.1, b7 g1621 A1622 ((t1611.2.2.2.2.2.2).length) n1624 t2557.2.2.1, r6 A1622 ((t1611.2.2.2.2.2.2).length) n1624 t2557.2.2.2, r18 A3117 ((t3112.2.1).length) n3119 t3112.2.1, r6 A3121 ((t3112.2.2).length) n3123 t3112.2.2, b20 g3125 A3117 ((t3112.2.1).length) n3119 A3121 ((t3112.2.2).length) n3123] w3136) := ⟨HS.out.sub (.cons _ (.cons _ (.cons_cons _ (.cons_cons _ (.cons_cons _ (.cons_cons _ (.cons_cons _ (.cons_cons _ .slnil))))))))⟩))
          obtain ⟨t3137, HA3138, H⟩ := bind_some H
          refine (obj_See.calls _ t2557.2.2.2 t2557.2.2.1 t1611.2.1 t1611.2.2.1 t1611.2.2.2.1 t1611.2.2.2.2.1 t2557.1 g1620 g1621 A1622 ((t1611.2.2.2.2.2.2).length) n1624 t3137 _ ⟨HGl0.out.pass HS.out⟩ ⟨HS.out.begin⟩ HA3138).mono ?_
          rintro e_ w3139 ⟨A3142, m3143, n3144, A3146, m3147, n3148, rfl, hS⟩
          replace HS : Aside0 (Sep (fps []) w [b8 g1620 g1621 t1611.2.1 t1611.2.2.1 t1611.2.2.2.1 t1611.2.2.2.2.1, b7 g1621 A1622 ((t1611.2.2.2.2.2.2).length) n1624 t2557.2.2.1, r6 A1622 ((t1611.2.2.2.2.2.2).length) n1624 t2557.2.2.2, r18 A3142 m3143 n3144 t3137.2.1, r6 A3146 m3147 n3148 t3137.2.2, r18 A3117 ((t3112.2.1).length) n3119 t3112.2.1, r6 A3121 ((t3112.2.2).length) n3123 t3112.2.2, b20 g3125 A3117 ((t3112.2.1).length) n3119 A3121 ((t3112.2.2).length) n3123] w3139) := ⟨HS.out.call hS⟩
          clear hS
          obtain rfl := (row_len (HS.out.at3)).symm
          obtain rfl := (row_len (HS.out.at4)).symm
          go_wp2_with (first | ((with_reducible refine gate_dst (N := 19) rfl ?_); refine box_on ?hg (N := 19) ?hd (cs := #[.slice none 0 0, .slice none 0 0]) (t := 71) ?hr ?_; (case hd => rfl); (case hg => rfl); (case hr => first | (go_simp; done) | (go_simp; rfl)); intro g3150 hg w3151 hbox hb; replace HS : Aside0 (Sep (fps []) w [b8 g1620 g1621 t1611.2.1 t1611.2.2.1 t1611.2.2.2.1 t1611.2.2.2.2.1, b7 g1621 A1622 ((t1611.2.2.2.2.2.2).length) n1624 t2557.2.2.1, r6 A1622 ((t1611.2.2.2.2.2.2).length) n1624 t2557.2.2.2, r18 A3142 ((t3137.2.1).length) n3144 t3137.2.1, r6 A3146 ((t3137.2.2).length) n3148 t3137.2.2, r18 A3117 ((t3112.2.1).length) n3119 t3112.2.1, r6 A3121 ((t3112.2.2).length) n3123 t3112.2.2, b20 g3125 A3117 ((t3112.2.1).length) n3119 A3121 ((t3112.2.2).length) n3123, b17 g3150] w3151) := ⟨HS.out.box hg hbox hb⟩; clear hg hbox hb; replace HS : Aside0 (Sep (fps []) w [r18 none 0 0 [], b8 g1620 g1621 t1611.2.1 t1611.2.2.1 t1611.2.2.2.1 t1611.2.2.2.2.1, b7 g1621 A1622 ((t1611.2.2.2.2.2.2).length) n1624 t2557.2.2.1, r6 A1622 ((t1611.2.2.2.2.2.2).length) n1624 t2557.2.2.2, r18 A3142 ((t3137.2.1).length) n3144 t3137.2.1, r6 A3146 ((t3137.2.2).length) n3148 t3137.2.2, r18 A3117 ((t3112.2.1).length) n3119 t3112.2.1, r6 A3121 ((t3112.2.2).length) n3123 t3112.2.2, b20 g3125 A3117 ((t3112.2.1).length) n3119 A3121 ((t3112.2.2).length) n3123, b19 g3150 none 0 0] w3151) := ⟨HS.out.nilrow 3 (Value.int .i64)⟩; replace HS : Aside0 (Sep (fps []) w [r6 none 0 0 [], r18 none 0 0 [], b8 g1620 g1621 t1611.2.1 t1611.2.2.1 t1611.2.2.2.1 t1611.2.2.2.2.1, b7 g1621 A1622 ((t1611.2.2.2.2.2.2).length) n1624 t2557.2.2.1, r6 A1622 ((t1611.2.2.2.2.2.2).length) n1624 t2557.2.2.2, r18 A3142 ((t3137.2.1).length) n3144 t3137.2.1, r6 A3146 ((t3137.2.2).length) n3148 t3137.2.2, r18 A3117 ((t3112.2.1).length) n3119 t3112.2.1, r6 A3121 ((t3112.2.2).length) n3123 t3112.2.2, b20 g3125 A3117 ((t3112.2.1).length) n3119 A3121 ((t3112.2.2).length) n3123, b20 g3150 none 0 0 none 0 0] w3151) := ⟨HS.out.nilrow 33 (Value.int .u32)⟩; have hc3157 : w3151.cell? ⟨g3150, 0, none⟩ = some (.slice none 0 0) := blk_cellv (HS.out.nth 10 rfl) 0 rfl; have hz3158 : w3151.frozen? ⟨g3150, 0, none⟩ = false := blk_fz (HS.out.nth 10 rfl) 0; have hc3159 : w3151.cell? ⟨g3150, 1, none⟩ = some (.slice none 0 0) := blk_cellv (HS.out.nth 10 rfl) 1 rfl; have hz3160 : w3151.frozen? ⟨g3150, 1, none⟩ = false := blk_fz (HS.out.nth 10 rfl) 1) | ((with_reducible refine gate_store (t := 71) (p := 19) rfl ?_); refine store_event (w1 := (World.setCell (World.setCell w3151 ⟨g3150, 0, none⟩ (.slice A3142 ((t3137.2.1).length) n3144)) ⟨g3150, 1, none⟩ (.slice A3146 ((t3137.2.2).length) n3148))) rfl (t := 71) (p := 19) rfl rfl ?hr ?_; (case hr => first | (go_simp; done) | (go_simp; rfl)); intro w3161 hst; clear hc3157 hz3158 hc3159 hz3160; have hq0 : Sep (fps []) w [r6 none 0 0 [], r18 none 0 0 [], b8 g1620 g1621 t1611.2.1 t1611.2.2.1 t1611.2.2.2.1 t1611.2.2.2.2.1, b7 g1621 A1622 ((t1611.2.2.2.2.2.2).length) n1624 t2557.2.2.1, r6 A1622 ((t1611.2.2.2.2.2.2).length) n1624 t2557.2.2.2, r18 A3142 ((t3137.2.1).length) n3144 t3137.2.1, r6 A3146 ((t3137.2.2).length) n3148 t3137.2.2, r18 A3117 ((t3112.2.1).length) n3119 t3112.2.1, r6 A3121 ((t3112.2.2).length) n3123 t3112.2.2, b20 g3125 A3117 ((t3112.2.1).length) n3119 A3121 ((t3112.2.2).length) n3123, b20 g3150 A3142 ((t3137.2.1).length) n3144 none 0 0] (World.setCell w3151 ⟨g3150, 0, none⟩ (.slice A3142 ((t3137.2.1).length) n3144)) := (HS.out).set1 (l1 := [r6 none 0 0 [], r18 none 0 0 [], b8 g1620 g1621 t1611.2.1 t1611.2.2.1 t1611.2.2.2.1 t1611.2.2.2.2.1, b7 g1621 A1622 ((t1611.2.2.2.2.2.2).length) n1624 t2557.2.2.1, r6 A1622 ((t1611.2.2.2.2.2.2).length) n1624 t2557.2.2.2, r18 A3142 ((t3137.2.1).length) n3144 t3137.2.1, r6 A3146 ((t3137.2.2).length) n3148 t3137.2.2, r18 A3117 ((t3112.2.1).length) n3119 t3112.2.1, r6 A3121 ((t3112.2.2).length) n3123 t3112.2.2, b20 g3125 A3117 ((t3112.2.1).length) n3119 A3121 ((t3112.2.2).length) n3123]) (l2 := []) 0 (.slice A3142 ((t3137.2.1).length) n3144); have hq1 : Sep (fps []) w [r6 none 0 0 [], r18 none 0 0 [], b8 g1620 g1621 t1611.2.1 t1611.2.2.1 t1611.2.2.2.1 t1611.2.2.2.2.1, b7 g1621 A1622 ((t1611.2.2.2.2.2.2).length) n1624 t2557.2.2.1, r6 A1622 ((t1611.2.2.2.2.2.2).length) n1624 t2557.2.2.2, r18 A3142 ((t3137.2.1).length) n3144 t3137.2.1, r6 A3146 ((t3137.2.2).length) n3148 t3137.2.2, r18 A3117 ((t3112.2.1).length) n3119 t3112.2.1, r6 A3121 ((t3112.2.2).length) n3123 t3112.2.2, b20 g3125 A3117 ((t3112.2.1).length) n3119 A3121 ((t3112.2.2).length) n3123, b20 g3150 A3142 ((t3137.2.1).length) n3144 A3146 ((t3137.2.2).length) n3148] (World.setCell (World.setCell w3151 ⟨g3150, 0, none⟩ (.slice A3142 ((t3137.2.1).length) n3144)) ⟨g3150, 1, none⟩ (.slice A3146 ((t3137.2.2).length) n3148)) := (hq0).set1 (l1 := [r6 none 0 0 [], r18 none 0 0 [], b8 g1620 g1621 t1611.2.1 t1611.2.2.1 t1611.2.2.2.1 t1611.2.2.2.2.1, b7 g1621 A1622 ((t1611.2.2.2.2.2.2).length) n1624 t2557.2.2.1, r6 A1622 ((t1611.2.2.2.2.2.2).length) n1624 t2557.2.2.2, r18 A3142 ((t3137.2.1).length) n3144 t3137.2.1, r6 A3146 ((t3137.2.2).length) n3148 t3137.2.2, r18 A3117 ((t3112.2.1).length) n3119 t3112.2.1, r6 A3121 ((t3112.2.2).length) n3123 t3112.2.2, b20 g3125 A3117 ((t3112.2.1).length) n3119 A3121 ((t3112.2.2).length) n3123]) (l2 := []) 1 (.slice A3146 ((t3137.2.2).length) n3148); replace HS : Aside0 (Sep (fps []) w [r6 none 0 0 [], r18 none 0 0 [], b8 g1620 g1621 t1611.2.1 t1611.2.2.1 t1611.2.2.2.1 t1611.2.2.2.2.1, b7 g1621 A1622 ((t1611.2.2.2.2.2.2).length) n1624 t2557.2.2.1, r6 A1622 ((t1611.2.2.2.2.2.2).length) n1624 t2557.2.2.2, r18 A3142 ((t3137.2.1).length) n3144 t3137.2.1, r6 A3146 ((t3137.2.2).length) n3148 t3137.2.2, r18 A3117 ((t3112.2.1).length) n3119 t3112.2.1, r6 A3121 ((t3112.2.2).length) n3123 t3112.2.2, b20 g3125 A3117 ((t3112.2.1).length) n3119 A3121 ((t3112.2.2).length) n3123, b20 g3150 A3142 ((t3137.2.1).length) n3144 A3146 ((t3137.2.2).length) n3148] w3161) := ⟨by rw [hst]; exact hq1⟩; clear hq0 hq1; clear hst; replace HS : Aside0 (Sep (fps []) w [b8 g1620 g1621 t1611.2.1 t1611.2.2.1 t1611.2.2.2.1 t1611.2.2.2.2.1, b7 g1621 A1622 ((t1611.2.2.2.2.2.2).length) n1624 t2557.2.2.1, r6 A1622 ((t1611.2.2.2.2.2.2).length) n1624 t2557.2.2.2, r18 A3142 ((t3137.2.1).length) n3144 t3137.2.1, r6 A3146 ((t3137.2.2).length) n3148 t3137.2.2, r18 A3117 ((t3112.2.1).length) n3119 t3112.2.1, r6 A3121 ((t3112.2.2).length) n3123 t3112.2.2, b20 g3125 A3117 ((t3112.2.1).length) n3119 A3121 ((t3112.2.2).length) n3123, b20 g3150 A3142 ((t3137.2.1).length) n3144 A3146 ((t3137.2.2).length) n3148] w3161) := ⟨HS.out.sub (.cons _ (.cons _ (.cons_cons _ (.cons_cons _ (.cons_cons _ (.cons_cons _ (.cons_cons _ (.cons_cons _ (.cons_cons _ (.cons_cons _ (.cons_cons _ .slnil)))))))))))⟩))
          obtain ⟨t3454, HA3455, H⟩ := bind_some H
          refine (obj_SetData.calls _ t2557.2.2.2 t2557.2.2.1 t1611.2.1 t1611.2.2.1 t1611.2.2.2.1 t1611.2.2.2.2.1 t2552.1 a5 a7 g1620 g1621 A1622 ((t1611.2.2.2.2.2.2).length) n1624 t3454 _ ⟨HGl0.out.pass HS.out⟩ ⟨HS.out.begin⟩ HA3455).mono ?_
          rintro e_ w3456 ⟨rfl, hS⟩
          replace HS : Aside0 (Sep (fps []) w [b8 g1620 g1621 t1611.2.1 t1611.2.2.1 t1611.2.2.2.1 t1611.2.2.2.2.1, b7 g1621 A1622 ((t1611.2.2.2.2.2.2).length) n1624 t3454.2.1, r6 A1622 ((t1611.2.2.2.2.2.2).length) n1624 t3454.2.2, r18 A3142 ((t3137.2.1).length) n3144 t3137.2.1, r6 A3146 ((t3137.2.2).length) n3148 t3137.2.2, r18 A3117 ((t3112.2.1).length) n3119 t3112.2.1, r6 A3121 ((t3112.2.2).length) n3123 t3112.2.2, b20 g3125 A3117 ((t3112.2.1).length) n3119 A3121 ((t3112.2.2).length) n3123, b20 g3150 A3142 ((t3137.2.1).length) n3144 A3146 ((t3137.2.2).length) n3148] w3456) := ⟨HS.out.call hS⟩
          clear hS
          by_cases c3457 : t3454.1 = 0
          · replace H := if_yes c3457 H
            have c3457b0 : (t3454.1 == 0) = true := beq_iff_eq.mpr c3457
            have c3457b1 : (t3454.1 != 0) = false := bne_eq_false_iff_eq.mpr c3457
            clear c3457
            by_cases c3459 : 0 ≤ a5
            · replace H := if_yes c3459 H
              have c3459b0 : decide (0 ≤ a5) = true := decide_eq_true c3459
              have c3459p : (0 ≤ a5) = True := eq_true c3459
              clear c3459
              by_cases c3460 : a5 < ((t3112.2.2).length : Int)
              · replace H := if_yes c3460 H
                have c3460b0 : decide (a5 < ((t3112.2.2).length : Int)) = true := decide_eq_true c3460
                have c3460p : (a5 < ((t3112.2.2).length : Int)) = True := eq_true c3460
                clear c3460
                obtain ⟨y3463, HA3464, H⟩ := bind_some H
                have hc3458 : w3456.cell? ⟨g3125, 1, none⟩ = some (.slice A3121 ((t3112.2.2).length) n3123) := blk_cellv (HS.out.at7) 1 rfl
                obtain ⟨g3461, ea⟩ := row_at (HS.out.at6) (by have := (of_decide_eq_true c3459b0); have := (of_decide_eq_true c3460b0); omega); cases ea
                have hx3465 := (row_get 0 (HS.out.at6) a5 (of_decide_eq_true c3459b0) (of_decide_eq_true c3460b0)).1
                have hz3466 := (row_get 0 (HS.out.at6) a5 (of_decide_eq_true c3459b0) (of_decide_eq_true c3460b0)).2
                go_wp2_with (first | ((with_reducible refine gate_store (t := 33) (p := 83) rfl ?_); refine store_event (w1 := World.setCell w3456 ⟨g3461, (a5).toNat, none⟩ (.int .u32 a7)) rfl (t := 33) (p := 83) rfl rfl ?hr ?_; (case hr => first | (go_simp; done) | (go_simp; rfl)); intro w3462 hst; clear hc3458 hx3465 hz3466; have hq := Sep.rowset (l1 := [b8 g1620 g1621 t1611.2.1 t1611.2.2.1 t1611.2.2.2.1 t1611.2.2.2.2.1, b7 g1621 A1622 ((t1611.2.2.2.2.2.2).length) n1624 t3454.2.1, r6 A1622 ((t1611.2.2.2.2.2.2).length) n1624 t3454.2.2, r18 A3142 ((t3137.2.1).length) n3144 t3137.2.1, r6 A3146 ((t3137.2.2).length) n3148 t3137.2.2, r18 A3117 ((t3112.2.1).length) n3119 t3112.2.1]) (l2 := [b20 g3125 A3117 ((t3112.2.1).length) n3119 (some ⟨g3461, 0, none⟩) ((t3112.2.2).length) n3123, b20 g3150 A3142 ((t3137.2.1).length) n3144 A3146 ((t3137.2.2).length) n3148]) HS.out a5 a7; rw [← hst, some_eq HA3464] at hq; replace HS : Aside0 (Sep (fps []) w [b8 g1620 g1621 t1611.2.1 t1611.2.2.1 t1611.2.2.2.1 t1611.2.2.2.2.1, b7 g1621 A1622 ((t1611.2.2.2.2.2.2).length) n1624 t3454.2.1, r6 A1622 ((t1611.2.2.2.2.2.2).length) n1624 t3454.2.2, r18 A3142 ((t3137.2.1).length) n3144 t3137.2.1, r6 A3146 ((t3137.2.2).length) n3148 t3137.2.2, r18 A3117 ((t3112.2.1).length) n3119 t3112.2.1, r6 (some ⟨g3461, 0, none⟩) ((t3112.2.2).length) n3123 y3463, b20 g3125 A3117 ((t3112.2.1).length) n3119 (some ⟨g3461, 0, none⟩) ((t3112.2.2).length) n3123, b20 g3150 A3142 ((t3137.2.1).length) n3144 A3146 ((t3137.2.2).length) n3148] w3462) := ⟨hq⟩; clear hst hq))
                obtain ⟨t3518, HA3519, H⟩ := bind_some H
                refine (obj_Data.calls _ t3454.2.2 t3454.2.1 t1611.2.1 t1611.2.2.1 t1611.2.2.2.1 t1611.2.2.2.2.1 t2552.1 a5 g1620 g1621 A1622 ((t1611.2.2.2.2.2.2).length) n1624 t3518 _ ⟨HGl0.out.pass HS.out⟩ ⟨HS.out.begin⟩ HA3519).mono ?_
                rintro e_ w3520 ⟨rfl, hS⟩
                replace HS : Aside0 (Sep (fps []) w [b8 g1620 g1621 t1611.2.1 t1611.2.2.1 t1611.2.2.2.1 t1611.2.2.2.2.1, b7 g1621 A1622 ((t1611.2.2.2.2.2.2).length) n1624 t3518.2.2, r6 A1622 ((t1611.2.2.2.2.2.2).length) n1624 t3454.2.2, r18 A3142 ((t3137.2.1).length) n3144 t3137.2.1, r6 A3146 ((t3137.2.2).length) n3148 t3137.2.2, r18 A3117 ((t3112.2.1).length) n3119 t3112.2.1, r6 (some ⟨g3461, 0, none⟩) ((t3112.2.2).length) n3123 y3463, b20 g3125 A3117 ((t3112.2.1).length) n3119 (some ⟨g3461, 0, none⟩) ((t3112.2.2).length) n3123, b20 g3150 A3142 ((t3137.2.1).length) n3144 A3146 ((t3137.2.2).length) n3148] w3520) := ⟨HS.out.call hS⟩
                clear hS
                by_cases c3521 : t3518.1 = a7
                · replace H := if_yes c3521 H
                  have c3521b0 : (t3518.1 == a7) = true := beq_iff_eq.mpr c3521
                  have c3521b1 : (t3518.1 != a7) = false := bne_eq_false_iff_eq.mpr c3521
                  clear c3521
                  by_cases c3522 : t3518.2.1 = 0
                  · replace H := if_yes c3522 H
                    have c3522b0 : (t3518.2.1 == 0) = true := beq_iff_eq.mpr c3522
                    have c3522b1 : (t3518.2.1 != 0) = false := bne_eq_false_iff_eq.mpr c3522
                    clear c3522
                    go_wp2_with fail
                    obtain ⟨t3600, HA3601, H⟩ := bind_some H
                    refine (obj_SetPtr.calls _ t3454.2.2 t3518.2.2 t1611.2.1 t1611.2.2.1 t1611.2.2.2.1 t1611.2.2.2.2.1 t2557.1 a6 t2552.1 g1620 g1621 A1622 ((t1611.2.2.2.2.2.2).length) n1624 t3600 _ ⟨HGl0.out.pass HS.out⟩ ⟨HS.out.begin⟩ HA3601).mono ?_
                    rintro e_ w3602 ⟨rfl, hS⟩
                    replace HS : Aside0 (Sep (fps []) w [b8 g1620 g1621 t1611.2.1 t1611.2.2.1 t1611.2.2.2.1 t1611.2.2.2.2.1, b7 g1621 A1622 ((t1611.2.2.2.2.2.2).length) n1624 t3600.2.1, r6 A1622 ((t1611.2.2.2.2.2.2).length) n1624 t3600.2.2, r18 A3142 ((t3137.2.1).length) n3144 t3137.2.1, r6 A3146 ((t3137.2.2).length) n3148 t3137.2.2, r18 A3117 ((t3112.2.1).length) n3119 t3112.2.1, r6 (some ⟨g3461, 0, none⟩) ((t3112.2.2).length) n3123 y3463, b20 g3125 A3117 ((t3112.2.1).length) n3119 (some ⟨g3461, 0, none⟩) ((t3112.2.2).length) n3123, b20 g3150 A3142 ((t3137.2.1).length) n3144 A3146 ((t3137.2.2).length) n3148] w3602) := ⟨HS.out.call hS⟩
                    clear hS
                    by_cases c3603 : t3600.1 = 0
                    · replace H := if_yes c3603 H
                      have c3603b0 : (t3600.1 == 0) = true := beq_iff_eq.mpr c3603
                      have c3603b1 : (t3600.1 != 0) = false := bne_eq_false_iff_eq.mpr c3603
                      clear c3603
                      by_cases c3605 : 0 ≤ a6
                      · replace H := if_yes c3605 H
                        have c3605b0 : decide (0 ≤ a6) = true := decide_eq_true c3605
                        have c3605p : (0 ≤ a6) = True := eq_true c3605
                        clear c3605
                        by_cases c3606 : a6 < ((t3137.2.1).length : Int)
                        · replace H := if_yes c3606 H
                          have c3606b0 : decide (a6 < ((t3137.2.1).length : Int)) = true := decide_eq_true c3606
                          have c3606p : (a6 < ((t3137.2.1).length : Int)) = True := eq_true c3606
                          clear c3606
                          obtain ⟨y3609, HA3610, H⟩ := bind_some H
                          have hc3604 : w3602.cell? ⟨g3150, 0, none⟩ = some (.slice A3142 ((t3137.2.1).length) n3144) := blk_cellv (HS.out.at8) 0 rfl
                          obtain ⟨g3607, ea⟩ := row_at (HS.out.at3) (by have := (of_decide_eq_true c3605b0); have := (of_decide_eq_true c3606b0); omega); cases ea
                          have hx3611 := (row_get 0 (HS.out.at3) a6 (of_decide_eq_true c3605b0) (of_decide_eq_true c3606b0)).1
                          have hz3612 := (row_get 0 (HS.out.at3) a6 (of_decide_eq_true c3605b0) (of_decide_eq_true c3606b0)).2
                          go_wp2_with (first | ((with_reducible refine gate_store (t := 3) (p := 108) rfl ?_); refine store_event (w1 := World.setCell w3602 ⟨g3607, (a6).toNat, none⟩ (.int .i64 t2552.1)) rfl (t := 3) (p := 108) rfl rfl ?hr ?_; (case hr => first | (go_simp; done) | (go_simp; rfl)); intro w3608 hst; clear hc3604 hx3611 hz3612; have hq := Sep.rowset (l1 := [b8 g1620 g1621 t1611.2.1 t1611.2.2.1 t1611.2.2.2.1 t1611.2.2.2.2.1, b7 g1621 A1622 ((t1611.2.2.2.2.2.2).length) n1624 t3600.2.1, r6 A1622 ((t1611.2.2.2.2.2.2).length) n1624 t3600.2.2]) (l2 := [r6 A3146 ((t3137.2.2).length) n3148 t3137.2.2, r18 A3117 ((t3112.2.1).length) n3119 t3112.2.1, r6 (some ⟨g3461, 0, none⟩) ((t3112.2.2).length) n3123 y3463, b20 g3125 A3117 ((t3112.2.1).length) n3119 (some ⟨g3461, 0, none⟩) ((t3112.2.2).length) n3123, b20 g3150 (some ⟨g3607, 0, none⟩) ((t3137.2.1).length) n3144 A3146 ((t3137.2.2).length) n3148]) HS.out a6 t2552.1; rw [← hst, some_eq HA3610] at hq; replace HS : Aside0 (Sep (fps []) w [b8 g1620 g1621 t1611.2.1 t1611.2.2.1 t1611.2.2.2.1 t1611.2.2.2.2.1, b7 g1621 A1622 ((t1611.2.2.2.2.2.2).length) n1624 t3600.2.1, r6 A1622 ((t1611.2.2.2.2.2.2).length) n1624 t3600.2.2, r18 (some ⟨g3607, 0, none⟩) ((t3137.2.1).length) n3144 y3609, r6 A3146 ((t3137.2.2).length) n3148 t3137.2.2, r18 A3117 ((t3112.2.1).length) n3119 t3112.2.1, r6 (some ⟨g3461, 0, none⟩) ((t3112.2.2).length) n3123 y3463, b20 g3125 A3117 ((t3112.2.1).length) n3119 (some ⟨g3461, 0, none⟩) ((t3112.2.2).length) n3123, b20 g3150 (some ⟨g3607, 0, none⟩) ((t3137.2.1).length) n3144 A3146 ((t3137.2.2).length) n3148] w3608) := ⟨hq⟩; clear hst hq))
                          obtain ⟨t3664, HA3665, H⟩ := bind_some H
                          refine (obj_Ptr.calls _ t3600.2.2 t3600.2.1 t1611.2.1 t1611.2.2.1 t1611.2.2.2.1 t1611.2.2.2.2.1 t2557.1 a6 g1620 g1621 A1622 ((t1611.2.2.2.2.2.2).length) n1624 t3664 _ ⟨HGl0.out.pass HS.out⟩ ⟨HS.out.begin⟩ HA3665).mono ?_
                          rintro e_ w3666 ⟨rfl, hS⟩
                          replace HS : Aside0 (Sep (fps []) w [b8 g1620 g1621 t1611.2.1 t1611.2.2.1 t1611.2.2.2.1 t1611.2.2.2.2.1, b7 g1621 A1622 ((t1611.2.2.2.2.2.2).length) n1624 t3664.2.2, r6 A1622 ((t1611.2.2.2.2.2.2).length) n1624 t3600.2.2, r18 (some ⟨g3607, 0, none⟩) ((t3137.2.1).length) n3144 y3609, r6 A3146 ((t3137.2.2).length) n3148 t3137.2.2, r18 A3117 ((t3112.2.1).length) n3119 t3112.2.1, r6 (some ⟨g3461, 0, none⟩) ((t3112.2.2).length) n3123 y3463, b20 g3125 A3117 ((t3112.2.1).length) n3119 (some ⟨g3461, 0, none⟩) ((t3112.2.2).length) n3123, b20 g3150 (some ⟨g3607, 0, none⟩) ((t3137.2.1).length) n3144 A3146 ((t3137.2.2).length) n3148] w3666) := ⟨HS.out.call hS⟩
                          clear hS
                          by_cases c3667 : t3664.1 = t2552.1
                          · replace H := if_yes c3667 H
                            have c3667b0 : (t3664.1 == t2552.1) = true := beq_iff_eq.mpr c3667
                            have c3667b1 : (t3664.1 != t2552.1) = false := bne_eq_false_iff_eq.mpr c3667
                            clear c3667
                            by_cases c3668 : t3664.2.1 = 0
                            · replace H := if_yes c3668 H
                              have c3668b0 : (t3664.2.1 == 0) = true := beq_iff_eq.mpr c3668
                              have c3668b1 : (t3664.2.1 != 0) = false := bne_eq_false_iff_eq.mpr c3668
                              clear c3668
                              go_wp2_with fail
                              obtain ⟨t3669, HA3670, H⟩ := bind_some H
                              refine (obj_See.calls _ t3600.2.2 t3664.2.2 t1611.2.1 t1611.2.2.1 t1611.2.2.2.1 t1611.2.2.2.2.1 t2552.1 g1620 g1621 A1622 ((t1611.2.2.2.2.2.2).length) n1624 t3669 _ ⟨HGl0.out.pass HS.out⟩ ⟨HS.out.begin⟩ HA3670).mono ?_
                              rintro e_ w3671 ⟨A3674, m3675, n3676, A3678, m3679, n3680, rfl, hS⟩
                              replace HS : Aside0 (Sep (fps []) w [b8 g1620 g1621 t1611.2.1 t1611.2.2.1 t1611.2.2.2.1 t1611.2.2.2.2.1, b7 g1621 A1622 ((t1611.2.2.2.2.2.2).length) n1624 t3664.2.2, r6 A1622 ((t1611.2.2.2.2.2.2).length) n1624 t3600.2.2, r18 A3674 m3675 n3676 t3669.2.1, r6 A3678 m3679 n3680 t3669.2.2, r18 (some ⟨g3607, 0, none⟩) ((t3137.2.1).length) n3144 y3609, r6 A3146 ((t3137.2.2).length) n3148 t3137.2.2, r18 A3117 ((t3112.2.1).length) n3119 t3112.2.1, r6 (some ⟨g3461, 0, none⟩) ((t3112.2.2).length) n3123 y3463, b20 g3125 A3117 ((t3112.2.1).length) n3119 (some ⟨g3461, 0, none⟩) ((t3112.2.2).length) n3123, b20 g3150 (some ⟨g3607, 0, none⟩) ((t3137.2.1).length) n3144 A3146 ((t3137.2.2).length) n3148] w3671) := ⟨HS.out.call hS⟩
                              clear hS
                              obtain rfl := (row_len (HS.out.at3)).symm
                              obtain rfl := (row_len (HS.out.at4)).symm
                              go_wp2_with (first | ((with_reducible refine gate_dst (N := 25) rfl ?_); refine box_on ?hg (N := 25) ?hd (cs := #[.slice none 0 0, .slice none 0 0]) (t := 71) ?hr ?_; (case hd => rfl); (case hg => rfl); (case hr => first | (go_simp; done) | (go_simp; rfl)); intro g3682 hg w3683 hbox hb; replace HS : Aside0 (Sep (fps []) w [b8 g1620 g1621 t1611.2.1 t1611.2.2.1 t1611.2.2.2.1 t1611.2.2.2.2.1, b7 g1621 A1622 ((t1611.2.2.2.2.2.2).length) n1624 t3664.2.2, r6 A1622 ((t1611.2.2.2.2.2.2).length) n1624 t3600.2.2, r18 A3674 ((t3669.2.1).length) n3676 t3669.2.1, r6 A3678 ((t3669.2.2).length) n3680 t3669.2.2, r18 (some ⟨g3607, 0, none⟩) ((t3137.2.1).length) n3144 y3609, r6 A3146 ((t3137.2.2).length) n3148 t3137.2.2, r18 A3117 ((t3112.2.1).length) n3119 t3112.2.1, r6 (some ⟨g3461, 0, none⟩) ((t3112.2.2).length) n3123 y3463, b20 g3125 A3117 ((t3112.2.1).length) n3119 (some ⟨g3461, 0, none⟩) ((t3112.2.2).length) n3123, b20 g3150 (some ⟨g3607, 0, none⟩) ((t3137.2.1).length) n3144 A3146 ((t3137.2.2).length) n3148, b17 g3682] w3683) := ⟨HS.out.box hg hbox hb⟩; clear hg hbox hb; replace HS : Aside0 (Sep (fps []) w [r18 none 0 0 [], b8 g1620 g1621 t1611.2.1 t1611.2.2.1 t1611.2.2.2.1 t1611.2.2.2.2.1, b7 g1621 A1622 ((t1611.2.2.2.2.2.2).length) n1624 t3664.2.2, r6 A1622 ((t1611.2.2.2.2.2.2).length) n1624 t3600.2.2, r18 A3674 ((t3669.2.1).length) n3676 t3669.2.1, r6 A3678 ((t3669.2.2).length) n3680 t3669.2.2, r18 (some ⟨g3607, 0, none⟩) ((t3137.2.1).length) n3144 y3609, r6 A3146 ((t3137.2.2).length) n3148 t3137.2.2, r18 A3117 ((t3112.2.1).length) n3119 t3112.2.1, r6 (some ⟨g3461, 0, none⟩) ((t3112.2.2).length) n3123 y3463, b20 g3125 A3117 ((t3112.2.1).length) n3119 (some ⟨g3461, 0, none⟩) ((t3112.2.2).length) n3123, b20 g3150 (some ⟨g3607, 0, none⟩) ((t3137.2.1).length) n3144 A3146 ((t3137.2.2).length) n3148, b19 g3682 none 0 0] w3683) := ⟨HS.out.nilrow 3 (Value.int .i64)⟩; replace HS : Aside0 (Sep (fps []) w [r6 none 0 0 [], r18 none 0 0 [], b8 g1620 g1621 t1611.2.1 t1611.2.2.1 t1611.2.2.2.1 t1611.2.2.2.2.1, b7 g1621 A1622 ((t1611.2.2.2.2.2.2).length) n1624 t3664.2.2, r6 A1622 ((t1611.2.2.2.2.2.2).length) n1624 t3600.2.2, r18 A3674 ((t3669.2.1).length) n3676 t3669.2.1, r6 A3678 ((t3669.2.2).length) n3680 t3669.2.2, r18 (some ⟨g3607, 0, none⟩) ((t3137.2.1).length) n3144 y3609, r6 A3146 ((t3137.2.2).length) n3148 t3137.2.2, r18 A3117 ((t3112.2.1).length) n3119 t3112.2.1, r6 (some ⟨g3461, 0, none⟩) ((t3112.2.2).length) n3123 y3463, b20 g3125 A3117 ((t3112.2.1).length) n3119 (some ⟨g3461, 0, none⟩) ((t3112.2.2).length) n3123, b20 g3150 (some ⟨g3607, 0, none⟩) ((t3137.2.1).length) n3144 A3146 ((t3137.2.2).length) n3148, b20 g3682 none 0 0 none 0 0] w3683) := ⟨HS.out.nilrow 33 (Value.int .u32)⟩; have hc3689 : w3683.cell? ⟨g3682, 0, none⟩ = some (.slice none 0 0) := blk_cellv (HS.out.nth 13 rfl) 0 rfl; have hz3690 : w3683.frozen? ⟨g3682, 0, none⟩ = false := blk_fz (HS.out.nth 13 rfl) 0; have hc3691 : w3683.cell? ⟨g3682, 1, none⟩ = some (.slice none 0 0) := blk_cellv (HS.out.nth 13 rfl) 1 rfl; have hz3692 : w3683.frozen? ⟨g3682, 1, none⟩ = false := blk_fz (HS.out.nth 13 rfl) 1) | ((with_reducible refine gate_store (t := 71) (p := 25) rfl ?_); refine store_event (w1 := (World.setCell (World.setCell w3683 ⟨g3682, 0, none⟩ (.slice A3674 ((t3669.2.1).length) n3676)) ⟨g3682, 1, none⟩ (.slice A3678 ((t3669.2.2).length) n3680))) rfl (t := 71) (p := 25) rfl rfl ?hr ?_; (case hr => first | (go_simp; done) | (go_simp; rfl)); intro w3693 hst; clear hc3689 hz3690 hc3691 hz3692; have hq0 : Sep (fps []) w [r6 none 0 0 [], r18 none 0 0 [], b8 g1620 g1621 t1611.2.1 t1611.2.2.1 t1611.2.2.2.1 t1611.2.2.2.2.1, b7 g1621 A1622 ((t1611.2.2.2.2.2.2).length) n1624 t3664.2.2, r6 A1622 ((t1611.2.2.2.2.2.2).length) n1624 t3600.2.2, r18 A3674 ((t3669.2.1).length) n3676 t3669.2.1, r6 A3678 ((t3669.2.2).length) n3680 t3669.2.2, r18 (some ⟨g3607, 0, none⟩) ((t3137.2.1).length) n3144 y3609, r6 A3146 ((t3137.2.2).length) n3148 t3137.2.2, r18 A3117 ((t3112.2.1).length) n3119 t3112.2.1, r6 (some ⟨g3461, 0, none⟩) ((t3112.2.2).length) n3123 y3463, b20 g3125 A3117 ((t3112.2.1).length) n3119 (some ⟨g3461, 0, none⟩) ((t3112.2.2).length) n3123, b20 g3150 (some ⟨g3607, 0, none⟩) ((t3137.2.1).length) n3144 A3146 ((t3137.2.2).length) n3148, b20 g3682 A3674 ((t3669.2.1).length) n3676 none 0 0] (World.setCell w3683 ⟨g3682, 0, none⟩ (.slice A3674 ((t3669.2.1).length) n3676)) := (HS.out).set1 (l1 := [r6 none 0 0 [], r18 none 0 0 [], b8 g1620 g1621 t1611.2.1 t1611.2.2.1 t1611.2.2.2.1 t1611.2.2.2.2.1, b7 g1621 A1622 ((t1611.2.2.2.2.2.2).length) n1624 t3664.2.2, r6 A1622 ((t1611.2.2.2.2.2.2).length) n1624 t3600.2.2, r18 A3674 ((t3669.2.1).length) n3676 t3669.2.1, r6 A3678 ((t3669.2.2).length) n3680 t3669.2.2, r18 (some ⟨g3607, 0, none⟩) ((t3137.2.1).length) n3144 y3609, r6 A3146 ((t3137.2.2).length) n3148 t3137.2.2, r18 A3117 ((t3112.2.1).length) n3119 t3112.2.1, r6 (some ⟨g3461, 0, none⟩) ((t3112.2.2).length) n3123 y3463, b20 g3125 A3117 ((t3112.2.1).length) n3119 (some ⟨g3461, 0, none⟩) ((t3112.2.2).length) n3123, b20 g3150 (some ⟨g3607, 0, none⟩) ((t3137.2.1).length) n3144 A3146 ((t3137.2.2).length) n3148]) (l2 := []) 0 (.slice A3674 ((t3669.2.1).length) n3676); have hq1 : Sep (fps []) w [r6 none 0 0 [], r18 none 0 0 [], b8 g1620 g1621 t1611.2.1 t1611.2.2.1 t1611.2.2.2.1 t1611.2.2.2.2.1, b7 g1621 A1622 ((t1611.2.2.2.2.2.2).length) n1624 t3664.2.2, r6 A1622 ((t1611.2.2.2.2.2.2).length) n1624 t3600.2.2, r18 A3674 ((t3669.2.1).length) n3676 t3669.2.1, r6 A3678 ((t3669.2.2).length) n3680 t3669.2.2, r18 (some ⟨g3607, 0, none⟩) ((t3137.2.1).length) n3144 y3609, r6 A3146 ((t3137.2.2).length) n3148 t3137.2.2, r18 A3117 ((t3112.2.1).length) n3119 t3112.2.1, r6 (some ⟨g3461, 0, none⟩) ((t3112.2.2).length) n3123 y3463, b20 g3125 A3117 ((t3112.2.1).length) n3119 (some ⟨g3461, 0, none⟩) ((t3112.2.2).length) n3123, b20 g3150 (some ⟨g3607, 0, none⟩) ((t3137.2.1).length) n3144 A3146 ((t3137.2.2).length) n3148, b20 g3682 A3674 ((t3669.2.1).length) n3676 A3678 ((t3669.2.2).length) n3680] (World.setCell (World.setCell w3683 ⟨g3682, 0, none⟩ (.slice A3674 ((t3669.2.1).length) n3676)) ⟨g3682, 1, none⟩ (.slice A3678 ((t3669.2.2).length) n3680)) := (hq0).set1 (l1 := [r6 none 0 0 [], r18 none 0 0 [], b8 g1620 g1621 t1611.2.1 t1611.2.2.1 t1611.2.2.2.1 t1611.2.2.2.2.1, b7 g1621 A1622 ((t1611.2.2.2.2.2.2).length) n1624 t3664.2.2, r6 A1622 ((t1611.2.2.2.2.2.2).length) n1624 t3600.2.2, r18 A3674 ((t3669.2.1).length) n3676 t3669.2.1, r6 A3678 ((t3669.2.2).length) n3680 t3669.2.2, r18 (some ⟨g3607, 0, none⟩) ((t3137.2.1).length) n3144 y3609, r6 A3146 ((t3137.2.2).length) n3148 t3137.2.2, r18 A3117 ((t3112.2.1).length) n3119 t3112.2.1, r6 (some ⟨g3461, 0, none⟩) ((t3112.2.2).length) n3123 y3463, b20 g3125 A3117 ((t3112.2.1).length) n3119 (some ⟨g3461, 0, none⟩) ((t3112.2.2).length) n3123, b20 g3150 (some ⟨g3607, 0, none⟩) ((t3137.2.1).length) n3144 A3146 ((t3137.2.2).length) n3148]) (l2 := []) 1 (.slice A3678 ((t3669.2.2).length) n3680); replace HS : Aside0 (Sep (fps []) w [r6 none 0 0 [], r18 none 0 0 [], b8 g1620 g1621 t1611.2.1 t1611.2.2.1 t1611.2.2.2.1 t1611.2.2.2.2.1, b7 g1621 A1622 ((t1611.2.2.2.2.2.2).length) n1624 t3664.2.2, r6 A1622 ((t1611.2.2.2.2.2.2).length) n1624 t3600.2.2, r18 A3674 ((t3669.2.1).length) n3676 t3669.2.1, r6 A3678 ((t3669.2.2).length) n3680 t3669.2.2, r18 (some ⟨g3607, 0, none⟩) ((t3137.2.1).length) n3144 y3609, r6 A3146 ((t3137.2.2).length) n3148 t3137.2.2, r18 A3117 ((t3112.2.1).length) n3119 t3112.2.1, r6 (some ⟨g3461, 0, none⟩) ((t3112.2.2).length) n3123 y3463, b20 g3125 A3117 ((t3112.2.1).length) n3119 (some ⟨g3461, 0, none⟩) ((t3112.2.2).length) n3123, b20 g3150 (some ⟨g3607, 0, none⟩) ((t3137.2.1).length) n3144 A3146 ((t3137.2.2).length) n3148, b20 g3682 A3674 ((t3669.2.1).length) n3676 A3678 ((t3669.2.2).length) n3680] w3693) := ⟨by rw [hst]; exact hq1⟩; clear hq0 hq1; clear hst; replace HS : Aside0 (Sep (fps []) w [b8 g1620 g1621 t1611.2.1 t1611.2.2.1 t1611.2.2.2.1 t1611.2.2.2.2.1, b7 g1621 A1622 ((t1611.2.2.2.2.2.2).length) n1624 t3664.2.2, r6 A1622 ((t1611.2.2.2.2.2.2).length) n1624 t3600.2.2, r18 A3674 ((t3669.2.1).length) n3676 t3669.2.1, r6 A3678 ((t3669.2.2).length) n3680 t3669.2.2, r18 (some ⟨g3607, 0, none⟩) ((t3137.2.1).length) n3144 y3609, r6 A3146 ((t3137.2.2).length) n3148 t3137.2.2, r18 A3117 ((t3112.2.1).length) n3119 t3112.2.1, r6 (some ⟨g3461, 0, none⟩) ((t3112.2.2).length) n3123 y3463, b20 g3125 A3117 ((t3112.2.1).length) n3119 (some ⟨g3461, 0, none⟩) ((t3112.2.2).length) n3123, b20 g3150 (some ⟨g3607, 0, none⟩) ((t3137.2.1).length) n3144 A3146 ((t3137.2.2).length) n3148, b20 g3682 A3674 ((t3669.2.1).length) n3676 A3678 ((t3669.2.2).length) n3680] w3693) := ⟨HS.out.sub (.cons _ (.cons _ (.cons_cons _ (.cons_cons _ (.cons_cons _ (.cons_cons _ (.cons_cons _ (.cons_cons _ (.cons_cons _ (.cons_cons _ (.cons_cons _ (.cons_cons _ (.cons_cons _ (.cons_cons _ .slnil))))))))))))))⟩))
                              obtain ⟨t3694, HA3695, H⟩ := bind_some H
                              refine (obj_See.calls _ t3600.2.2 t3664.2.2 t1611.2.1 t1611.2.2.1 t1611.2.2.2.1 t1611.2.2.2.2.1 t2557.1 g1620 g1621 A1622 ((t1611.2.2.2.2.2.2).length) n1624 t3694 _ ⟨HGl0.out.pass HS.out⟩ ⟨HS.out.begin⟩ HA3695).mono ?_
                              rintro e_ w3696 ⟨A3699, m3700, n3701, A3703, m3704, n3705, rfl, hS⟩
                              replace HS : Aside0 (Sep (fps []) w [b8 g1620 g1621 t1611.2.1 t1611.2.2.1 t1611.2.2.2.1 t1611.2.2.2.2.1, b7 g1621 A1622 ((t1611.2.2.2.2.2.2).length) n1624 t3664.2.2, r6 A1622 ((t1611.2.2.2.2.2.2).length) n1624 t3600.2.2, r18 A3699 m3700 n3701 t3694.2.1, r6 A3703 m3704 n3705 t3694.2.2, r18 A3674 ((t3669.2.1).length) n3676 t3669.2.1, r6 A3678 ((t3669.2.2).length) n3680 t3669.2.2, r18 (some ⟨g3607, 0, none⟩) ((t3137.2.1).length) n3144 y3609, r6 A3146 ((t3137.2.2).length) n3148 t3137.2.2, r18 A3117 ((t3112.2.1).length) n3119 t3112.2.1, r6 (some ⟨g3461, 0, none⟩) ((t3112.2.2).length) n3123 y3463, b20 g3125 A3117 ((t3112.2.1).length) n3119 (some ⟨g3461, 0, none⟩) ((t3112.2.2).length) n3123, b20 g3150 (some ⟨g3607, 0, none⟩) ((t3137.2.1).length) n3144 A3146 ((t3137.2.2).length) n3148, b20 g3682 A3674 ((t3669.2.1).length) n3676 A3678 ((t3669.2.2).length) n3680] w3696) := ⟨HS.out.call hS⟩
                              clear hS
                              obtain rfl := (row_len (HS.out.at3)).symm
                              obtain rfl := (row_len (HS.out.at4)).symm
                              go_wp2_with (first | ((with_reducible refine gate_dst (N := 27) rfl ?_); refine box_on ?hg (N := 27) ?hd (cs := #[.slice none 0 0, .slice none 0 0]) (t := 71) ?hr ?_; (case hd => rfl); (case hg => rfl); (case hr => first | (go_simp; done) | (go_simp; rfl)); intro g3707 hg w3708 hbox hb; replace HS : Aside0 (Sep (fps []) w [b8 g1620 g1621 t1611.2.1 t1611.2.2.1 t1611.2.2.2.1 t1611.2.2.2.2.1, b7 g1621 A1622 ((t1611.2.2.2.2.2.2).length) n1624 t3664.2.2, r6 A1622 ((t1611.2.2.2.2.2.2).length) n1624 t3600.2.2, r18 A3699 ((t3694.2.1).length) n3701 t3694.2.1, r6 A3703 ((t3694.2.2).length) n3705 t3694.2.2, r18 A3674 ((t3669.2.1).length) n3676 t3669.2.1, r6 A3678 ((t3669.2.2).length) n3680 t3669.2.2, r18 (some ⟨g3607, 0, none⟩) ((t3137.2.1).length) n3144 y3609, r6 A3146 ((t3137.2.2).length) n3148 t3137.2.2, r18 A3117 ((t3112.2.1).length) n3119 t3112.2.1, r6 (some ⟨g3461, 0, none⟩) ((t3112.2.2).length) n3123 y3463, b20 g3125 A3117 ((t3112.2.1).length) n3119 (some ⟨g3461, 0, none⟩) ((t3112.2.2).length) n3123, b20 g3150 (some ⟨g3607, 0, none⟩) ((t3137.2.1).length) n3144 A3146 ((t3137.2.2).length) n3148, b20 g3682 A3674 ((t3669.2.1).length) n3676 A3678 ((t3669.2.2).length) n3680, b17 g3707] w3708) := ⟨HS.out.box hg hbox hb⟩; clear hg hbox hb; replace HS : Aside0 (Sep (fps []) w [r18 none 0 0 [], b8 g1620 g1621 t1611.2.1 t1611.2.2.1 t1611.2.2.2.1 t1611.2.2.2.2.1, b7 g1621 A1622 ((t1611.2.2.2.2.2.2).length) n1624 t3664.2.2, r6 A1622 ((t1611.2.2.2.2.2.2).length) n1624 t3600.2.2, r18 A3699 ((t3694.2.1).length) n3701 t3694.2.1, r6 A3703 ((t3694.2.2).length) n3705 t3694.2.2, r18 A3674 ((t3669.2.1).length) n3676 t3669.2.1, r6 A3678 ((t3669.2.2).length) n3680 t3669.2.2, r18 (some ⟨g3607, 0, none⟩) ((t3137.2.1).length) n3144 y3609, r6 A3146 ((t3137.2.2).length) n3148 t3137.2.2, r18 A3117 ((t3112.2.1).length) n3119 t3112.2.1, r6 (some ⟨g3461, 0, none⟩) ((t3112.2.2).length) n3123 y3463, b20 g3125 A3117 ((t3112.2.1).length) n3119 (some ⟨g3461, 0, none⟩) ((t3112.2.2).length) n3123, b20 g3150 (some ⟨g3607, 0, none⟩) ((t3137.2.1).length) n3144 A3146 ((t3137.2.2).length) n3148, b20 g3682 A3674 ((t3669.2.1).length) n3676 A3678 ((t3669.2.2).length) n3680, b19 g3707 none 0 0] w3708) := ⟨HS.out.nilrow 3 (Value.int .i64)⟩; replace HS : Aside0 (Sep (fps []) w [r6 none 0 0 [], r18 none 0 0 [], b8 g1620 g1621 t1611.2.1 t1611.2.2.1 t1611.2.2.2.1 t1611.2.2.2.2.1, b7 g1621 A1622 ((t1611.2.2.2.2.2.2).length) n1624 t3664.2.2, r6 A1622 ((t1611.2.2.2.2.2.2).length) n1624 t3600.2.2, r18 A3699 ((t3694.2.1).length) n3701 t3694.2.1, r6 A3703 ((t3694.2.2).length) n3705 t3694.2.2, r18 A3674 ((t3669.2.1).length) n3676 t3669.2.1, r6 A3678 ((t3669.2.2).length) n3680 t3669.2.2, r18 (some ⟨g3607, 0, none⟩) ((t3137.2.1).length) n3144 y3609, r6 A3146 ((t3137.2.2).length) n3148 t3137.2.2, r18 A3117 ((t3112.2.1).length) n3119 t3112.2.1, r6 (some ⟨g3461, 0, none⟩) ((t3112.2.2).length) n3123 y3463, b20 g3125 A3117 ((t3112.2.1).length) n3119 (some ⟨g3461, 0, none⟩) ((t3112.2.2).length) n3123, b20 g3150 (some ⟨g3607, 0, none⟩) ((t3137.2.1).length) n3144 A3146 ((t3137.2.2).length) n3148, b20 g3682 A3674 ((t3669.2.1).length) n3676 A3678 ((t3669.2.2).length) n3680, b20 g3707 none 0 0 none 0 0] w3708) := ⟨HS.out.nilrow 33 (Value.int .u32)⟩; have hc3714 : w3708.cell? ⟨g3707, 0, none⟩ = some (.slice none 0 0) := blk_cellv (HS.out.nth 16 rfl) 0 rfl; have hz3715 : w3708.frozen? ⟨g3707, 0, none⟩ = false := blk_fz (HS.out.nth 16 rfl) 0; have hc3716 : w3708.cell? ⟨g3707, 1, none⟩ = some (.slice none 0 0) := blk_cellv (HS.out.nth 16 rfl) 1 rfl; have hz3717 : w3708.frozen? ⟨g3707, 1, none⟩ = false := blk_fz (HS.out.nth 16 rfl) 1) | ((with_reducible refine gate_store (t := 71) (p := 27) rfl ?_); refine store_event (w1 := (World.setCell (World.setCell w3708 ⟨g3707, 0, none⟩ (.slice A3699 ((t3694.2.1).length) n3701)) ⟨g3707, 1, none⟩ (.slice A3703 ((t3694.2.2).length) n3705))) rfl (t := 71) (p := 27) rfl rfl ?hr ?_; (case hr => first | (go_simp; done) | (go_simp; rfl)); intro w3718 hst; clear hc3714 hz3715 hc3716 hz3717; have hq0 : Sep (fps []) w [r6 none 0 0 [], r18 none 0 0 [], b8 g1620 g1621 t1611.2.1 t1611.2.2.1 t1611.2.2.2.1 t1611.2.2.2.2.1, b7 g1621 A1622 ((t1611.2.2.2.2.2.2).length) n1624 t3664.2.2, r6 A1622 ((t1611.2.2.2.2.2.2).length) n1624 t3600.2.2, r18 A3699 ((t3694.2.1).length) n3701 t3694.2.1, r6 A3703 ((t3694.2.2).length) n3705 t3694.2.2, r18 A3674 ((t3669.2.1).length) n3676 t3669.2.1, r6 A3678 ((t3669.2.2).length) n3680 t3669.2.2, r18 (some ⟨g3607, 0, none⟩) ((t3137.2.1).length) n3144 y3609, r6 A3146 ((t3137.2.2).length) n3148 t3137.2.2, r18 A3117 ((t3112.2.1).length) n3119 t3112.2.1, r6 (some ⟨g3461, 0, none⟩) ((t3112.2.2).length) n3123 y3463, b20 g3125 A3117 ((t3112.2.1).length) n3119 (some ⟨g3461, 0, none⟩) ((t3112.2.2).length) n3123, b20 g3150 (some ⟨g3607, 0, none⟩) ((t3137.2.1).length) n3144 A3146 ((t3137.2.2).length) n3148, b20 g3682 A3674 ((t3669.2.1).length) n3676 A3678 ((t3669.2.2).length) n3680, b20 g3707 A3699 ((t3694.2.1).length) n3701 none 0 0] (World.setCell w3708 ⟨g3707, 0, none⟩ (.slice A3699 ((t3694.2.1).length) n3701)) := (HS.out).set1 (l1 := [r6 none 0 0 [], r18 none 0 0 [], b8 g1620 g1621 t1611.2.1 t1611.2.2.1 t1611.2.2.2.1 t1611.2.2.2.2.1, b7 g1621 A1622 ((t1611.2.2.2.2.2.2).length) n1624 t3664.2.2, r6 A1622 ((t1611.2.2.2.2.2.2).length) n1624 t3600.2.2, r18 A3699 ((t3694.2.1).length) n3701 t3694.2.1, r6 A3703 ((t3694.2.2).length) n3705 t3694.2.2, r18 A3674 ((t3669.2.1).length) n3676 t3669.2.1, r6 A3678 ((t3669.2.2).length) n3680 t3669.2.2, r18 (some ⟨g3607, 0, none⟩) ((t3137.2.1).length) n3144 y3609, r6 A3146 ((t3137.2.2).length) n3148 t3137.2.2, r18 A3117 ((t3112.2.1).length) n3119 t3112.2.1, r6 (some ⟨g3461, 0, none⟩) ((t3112.2.2).length) n3123 y3463, b20 g3125 A3117 ((t3112.2.1).length) n3119 (some ⟨g3461, 0, none⟩) ((t3112.2.2).length) n3123, b20 g3150 (some ⟨g3607, 0, none⟩) ((t3137.2.1).length) n3144 A3146 ((t3137.2.2).length) n3148, b20 g3682 A3674 ((t3669.2.1).length) n3676 A3678 ((t3669.2.2).length) n3680]) (l2 := []) 0 (.slice A3699 ((t3694.2.1).length) n3701); have hq1 : Sep (fps []) w [r6 none 0 0 [], r18 none 0 0 [], b8 g1620 g1621 t1611.2.1 t1611.2.2.1 t1611.2.2.2.1 t1611.2.2.2.2.1, b7 g1621 A1622 ((t1611.2.2.2.2.2.2).length) n1624 t3664.2.2, r6 A1622 ((t1611.2.2.2.2.2.2).length) n1624 t3600.2.2, r18 A3699 ((t3694.2.1).length) n3701 t3694.2.1, r6 A3703 ((t3694.2.2).length) n3705 t3694.2.2, r18 A3674 ((t3669.2.1).length) n3676 t3669.2.1, r6 A3678 ((t3669.2.2).length) n3680 t3669.2.2, r18 (some ⟨g3607, 0, none⟩) ((t3137.2.1).length) n3144 y3609, r6 A3146 ((t3137.2.2).length) n3148 t3137.2.2, r18 A3117 ((t3112.2.1).length) n3119 t3112.2.1, r6 (some ⟨g3461, 0, none⟩) ((t3112.2.2).length) n3123 y3463, b20 g3125 A3117 ((t3112.2.1).length) n3119 (some ⟨g3461, 0, none⟩) ((t3112.2.2).length) n3123, b20 g3150 (some ⟨g3607, 0, none⟩) ((t3137.2.1).length) n3144 A3146 ((t3137.2.2).length) n3148, b20 g3682 A3674 ((t3669.2.1).length) n3676 A3678 ((t3669.2.2).length) n3680, b20 g3707 A3699 ((t3694.2.1).length) n3701 A3703 ((t3694.2.2).length) n3705] (World.setCell (World.setCell w3708 ⟨g3707, 0, none⟩ (.slice A3699 ((t3694.2.1).length) n3701)) ⟨g3707, 1, none⟩ (.slice A3703 ((t3694.2.2).length) n3705)) := (hq0).set1 (l1 := [r6 none 0 0 [], r18 none 0 0 [], b8 g1620 g1621 t1611.2.1 t1611.2.2.1 t1611.2.2.2.1 t1611.2.2.2.2.1, b7 g1621 A1622 ((t1611.2.2.2.2.2.2).length) n1624 t3664.2.2, r6 A1622 ((t1611.2.2.2.2.2.2).length) n1624 t3600.2.2, r18 A3699 ((t3694.2.1).length) n3701 t3694.2.1, r6 A3703 ((t3694.2.2).length) n3705 t3694.2.2, r18 A3674 ((t3669.2.1).length) n3676 t3669.2.1, r6 A3678 ((t3669.2.2).length) n3680 t3669.2.2, r18 (some ⟨g3607, 0, none⟩) ((t3137.2.1).length) n3144 y3609, r6 A3146 ((t3137.2.2).length) n3148 t3137.2.2, r18 A3117 ((t3112.2.1).length) n3119 t3112.2.1, r6 (some ⟨g3461, 0, none⟩) ((t3112.2.2).length) n3123 y3463, b20 g3125 A3117 ((t3112.2.1).length) n3119 (some ⟨g3461, 0, none⟩) ((t3112.2.2).length) n3123, b20 g3150 (some ⟨g3607, 0, none⟩) ((t3137.2.1).length) n3144 A3146 ((t3137.2.2).length) n3148, b20 g3682 A3674 ((t3669.2.1).length) n3676 A3678 ((t3669.2.2).length) n3680]) (l2 := []) 1 (.slice A3703 ((t3694.2.2).length) n3705); replace HS : Aside0 (Sep (fps []) w [r6 none 0 0 [], r18 none 0 0 [], b8 g1620 g1621 t1611.2.1 t1611.2.2.1 t1611.2.2.2.1 t1611.2.2.2.2.1, b7 g1621 A1622 ((t1611.2.2.2.2.2.2).length) n1624 t3664.2.2, r6 A1622 ((t1611.2.2.2.2.2.2).length) n1624 t3600.2.2, r18 A3699 ((t3694.2.1).length) n3701 t3694.2.1, r6 A3703 ((t3694.2.2).length) n3705 t3694.2.2, r18 A3674 ((t3669.2.1).length) n3676 t3669.2.1, r6 A3678 ((t3669.2.2).length) n3680 t3669.2.2, r18 (some ⟨g3607, 0, none⟩) ((t3137.2.1).length) n3144 y3609, r6 A3146 ((t3137.2.2).length) n3148 t3137.2.2, r18 A3117 ((t3112.2.1).length) n3119 t3112.2.1, r6 (some ⟨g3461, 0, none⟩) ((t3112.2.2).length) n3123 y3463, b20 g3125 A3117 ((t3112.2.1).length) n3119 (some ⟨g3461, 0, none⟩) ((t3112.2.2).length) n3123, b20 g3150 (some ⟨g3607, 0, none⟩) ((t3137.2.1).length) n3144 A3146 ((t3137.2.2).length) n3148, b20 g3682 A3674 ((t3669.2.1).length) n3676 A3678 ((t3669.2.2).length) n3680, b20 g3707 A3699 ((t3694.2.1).length) n3701 A3703 ((t3694.2.2).length) n3705] w3718) := ⟨by rw [hst]; exact hq1⟩; clear hq0 hq1; clear hst; replace HS : Aside0 (Sep (fps []) w [r18 A3699 ((t3694.2.1).length) n3701 t3694.2.1, r6 A3703 ((t3694.2.2).length) n3705 t3694.2.2, r18 A3674 ((t3669.2.1).length) n3676 t3669.2.1, r6 A3678 ((t3669.2.2).length) n3680 t3669.2.2, r18 (some ⟨g3607, 0, none⟩) ((t3137.2.1).length) n3144 y3609, r6 A3146 ((t3137.2.2).length) n3148 t3137.2.2, r18 A3117 ((t3112.2.1).length) n3119 t3112.2.1, r6 (some ⟨g3461, 0, none⟩) ((t3112.2.2).length) n3123 y3463, b20 g3125 A3117 ((t3112.2.1).length) n3119 (some ⟨g3461, 0, none⟩) ((t3112.2.2).length) n3123, b20 g3150 (some ⟨g3607, 0, none⟩) ((t3137.2.1).length) n3144 A3146 ((t3137.2.2).length) n3148, b20 g3682 A3674 ((t3669.2.1).length) n3676 A3678 ((t3669.2.2).length) n3680, b20 g3707 A3699 ((t3694.2.1).length) n3701 A3703 ((t3694.2.2).length) n3705] w3718) := ⟨HS.out.sub (.cons _ (.cons _ (.cons _ (.cons _ (.cons _ (.cons_cons _ (.cons_cons _ (.cons_cons _ (.cons_cons _ (.cons_cons _ (.cons_cons _ (.cons_cons _ (.cons_cons _ (.cons_cons _ (.cons_cons _ (.cons_cons _ (.cons_cons _ .slnil)))))))))))))))))⟩))
                              obtain ⟨t4320, HA4321, H⟩ := bind_some H
                              refine (quitrentlaw11_begun.calls _ t4320 _ ⟨HGl0.out.pass (l := []) HS.out⟩ ⟨Sep.start _⟩ HA4321).mono ?_
                              rintro e_ w4322 ⟨rfl, hS⟩
                              replace HS : Aside0 (Sep (fps []) w [r18 A3699 ((t3694.2.1).length) n3701 t3694.2.1, r6 A3703 ((t3694.2.2).length) n3705 t3694.2.2, r18 A3674 ((t3669.2.1).length) n3676 t3669.2.1, r6 A3678 ((t3669.2.2).length) n3680 t3669.2.2, r18 (some ⟨g3607, 0, none⟩) ((t3137.2.1).length) n3144 y3609, r6 A3146 ((t3137.2.2).length) n3148 t3137.2.2, r18 A3117 ((t3112.2.1).length) n3119 t3112.2.1, r6 (some ⟨g3461, 0, none⟩) ((t3112.2.2).length) n3123 y3463, b20 g3125 A3117 ((t3112.2.1).length) n3119 (some ⟨g3461, 0, none⟩) ((t3112.2.2).length) n3123, b20 g3150 (some ⟨g3607, 0, none⟩) ((t3137.2.1).length) n3144 A3146 ((t3137.2.2).length) n3148, b20 g3682 A3674 ((t3669.2.1).length) n3676 A3678 ((t3669.2.2).length) n3680, b20 g3707 A3699 ((t3694.2.1).length) n3701 A3703 ((t3694.2.2).length) n3705] w4322) := ⟨HS.out.call hS⟩
                              clear hS
                              by_cases c4323 : t4320 = true
                              · replace H := if_yes c4323 H
                                have c4323b0 : t4320 = true := c4323
                                have c4323b1 : (!t4320) = false := by rw [c4323b0]; rfl
                                clear c4323
                                have hc4324 : w4322.cell? ⟨g3682, 0, none⟩ = some (.slice A3674 ((t3669.2.1).length) n3676) := blk_cellv (HS.out.nth 10 rfl) 0 rfl
                                have hc4325 : w4322.cell? ⟨g3125, 0, none⟩ = some (.slice A3117 ((t3112.2.1).length) n3119) := blk_cellv (HS.out.at8) 0 rfl
                                go_wp2_with fail
                                clear hc4324 hc4325
                                obtain ⟨t4326, HA4327, H⟩ := bind_some H
                                refine (quitrentref01_Ints.calls _ t3669.2.1 t3112.2.1 A3674 n3676 A3117 n3119 t4326 _ ⟨Rd.ownI (l := []) HS.out 2 rfl⟩ ⟨Rd.ownI (l := []) HS.out 6 rfl⟩ ⟨HGl0.out.pass (l := []) HS.out⟩ ⟨Sep.start _⟩ HA4327).mono ?_
                                rintro e_ w4328 ⟨rfl, hS⟩
                                replace HS : Aside0 (Sep (fps []) w [r18 A3699 ((t3694.2.1).length) n3701 t3694.2.1, r6 A3703 ((t3694.2.2).length) n3705 t3694.2.2, r18 A3674 ((t3669.2.1).length) n3676 t3669.2.1, r6 A3678 ((t3669.2.2).length) n3680 t3669.2.2, r18 (some ⟨g3607, 0, none⟩) ((t3137.2.1).length) n3144 y3609, r6 A3146 ((t3137.2.2).length) n3148 t3137.2.2, r18 A3117 ((t3112.2.1).length) n3119 t3112.2.1, r6 (some ⟨g3461, 0, none⟩) ((t3112.2.2).length) n3123 y3463, b20 g3125 A3117 ((t3112.2.1).length) n3119 (some ⟨g3461, 0, none⟩) ((t3112.2.2).length) n3123, b20 g3150 (some ⟨g3607, 0, none⟩) ((t3137.2.1).length) n3144 A3146 ((t3137.2.2).length) n3148, b20 g3682 A3674 ((t3669.2.1).length) n3676 A3678 ((t3669.2.2).length) n3680, b20 g3707 A3699 ((t3694.2.1).length) n3701 A3703 ((t3694.2.2).length) n3705] w4328) := ⟨HS.out.call hS⟩
                                clear hS
                                by_cases c4329 : t4326 = true
                                · replace H := if_yes c4329 H
                                  have c4329b0 : t4326 = true := c4329
                                  have c4329b1 : (!t4326) = false := by rw [c4329b0]; rfl
                                  clear c4329
                                  have hc4330 : w4328.cell? ⟨g3682, 1, none⟩ = some (.slice A3678 ((t3669.2.2).length) n3680) := blk_cellv (HS.out.nth 10 rfl) 1 rfl
                                  have hc4331 : w4328.cell? ⟨g3125, 1, none⟩ = some (.slice (some ⟨g3461, 0, none⟩) ((t3112.2.2).length) n3123) := blk_cellv (HS.out.at8) 1 rfl
                                  go_wp2_with fail
                                  clear hc4330 hc4331
                                  have hl_ := row_len (HS.out.at7)
                                  rw [← hl_] at HS ⊢
                                  clear hl_
                                  obtain ⟨t4371, HA4372, H⟩ := bind_some H
                                  refine (quitrentref01_Same.calls _ t3669.2.2 y3463 A3678 n3680 (some ⟨g3461, 0, none⟩) n3123 t4371 _ ⟨Rd.ownI (l := []) HS.out 3 rfl⟩ ⟨Rd.ownI (l := []) HS.out 7 rfl⟩ ⟨HGl0.out.pass (l := []) HS.out⟩ ⟨Sep.start _⟩ HA4372).mono ?_
                                  rintro e_ w4373 ⟨rfl, hS⟩
                                  replace HS : Aside0 (Sep (fps []) w [r18 A3699 ((t3694.2.1).length) n3701 t3694.2.1, r6 A3703 ((t3694.2.2).length) n3705 t3694.2.2, r18 A3674 ((t3669.2.1).length) n3676 t3669.2.1, r6 A3678 ((t3669.2.2).length) n3680 t3669.2.2, r18 (some ⟨g3607, 0, none⟩) ((t3137.2.1).length) n3144 y3609, r6 A3146 ((t3137.2.2).length) n3148 t3137.2.2, r18 A3117 ((t3112.2.1).length) n3119 t3112.2.1, r6 (some ⟨g3461, 0, none⟩) y3463.length n3123 y3463, b20 g3125 A3117 ((t3112.2.1).length) n3119 (some ⟨g3461, 0, none⟩) y3463.length n3123, b20 g3150 (some ⟨g3607, 0, none⟩) ((t3137.2.1).length) n3144 A3146 ((t3137.2.2).length) n3148, b20 g3682 A3674 ((t3669.2.1).length) n3676 A3678 ((t3669.2.2).length) n3680, b20 g3707 A3699 ((t3694.2.1).length) n3701 A3703 ((t3694.2.2).length) n3705] w4373) := ⟨HS.out.call hS⟩
                                  clear hS
                                  by_cases c4374 : t4371 = true
                                  · replace H := if_yes c4374 H
                                    have c4374b0 : t4371 = true := c4374
                                    have c4374b1 : (!t4371) = false := by rw [c4374b0]; rfl
                                    clear c4374
                                    have hc4375 : w4373.cell? ⟨g3707, 0, none⟩ = some (.slice A3699 ((t3694.2.1).length) n3701) := blk_cellv (HS.out.nth 11 rfl) 0 rfl
                                    have hc4376 : w4373.cell? ⟨g3150, 0, none⟩ = some (.slice (some ⟨g3607, 0, none⟩) ((t3137.2.1).length) n3144) := blk_cellv (HS.out.nth 9 rfl) 0 rfl
                                    go_wp2_with fail
                                    clear hc4375 hc4376
                                    have hl_ := row_len (HS.out.at4)
                                    rw [← hl_] at HS ⊢
                                    clear hl_
                                    obtain ⟨t4377, HA4378, H⟩ := bind_some H
                                    refine (quitrentref01_Ints.calls _ t3694.2.1 y3609 A3699 n3701 (some ⟨g3607, 0, none⟩) n3144 t4377 _ ⟨Rd.ownI (l := []) HS.out 0 rfl⟩ ⟨Rd.ownI (l := []) HS.out 4 rfl⟩ ⟨HGl0.out.pass (l := []) HS.out⟩ ⟨Sep.start _⟩ HA4378).mono ?_
                                    rintro e_ w4379 ⟨rfl, hS⟩
                                    replace HS : Aside0 (Sep (fps []) w [r18 A3699 ((t3694.2.1).length) n3701 t3694.2.1, r6 A3703 ((t3694.2.2).length) n3705 t3694.2.2, r18 A3674 ((t3669.2.1).length) n3676 t3669.2.1, r6 A3678 ((t3669.2.2).length) n3680 t3669.2.2, r18 (some ⟨g3607, 0, none⟩) y3609.length n3144 y3609, r6 A3146 ((t3137.2.2).length) n3148 t3137.2.2, r18 A3117 ((t3112.2.1).length) n3119 t3112.2.1, r6 (some ⟨g3461, 0, none⟩) y3463.length n3123 y3463, b20 g3125 A3117 ((t3112.2.1).length) n3119 (some ⟨g3461, 0, none⟩) y3463.length n3123, b20 g3150 (some ⟨g3607, 0, none⟩) y3609.length n3144 A3146 ((t3137.2.2).length) n3148, b20 g3682 A3674 ((t3669.2.1).length) n3676 A3678 ((t3669.2.2).length) n3680, b20 g3707 A3699 ((t3694.2.1).length) n3701 A3703 ((t3694.2.2).length) n3705] w4379) := ⟨HS.out.call hS⟩
                                    clear hS
                                    by_cases c4380 : t4377 = true
                                    · replace H := if_yes c4380 H
                                      have c4380b0 : t4377 = true := c4380
                                      have c4380b1 : (!t4377) = false := by rw [c4380b0]; rfl
                                      clear c4380
                                      have hc4381 : w4379.cell? ⟨g3707, 1, none⟩ = some (.slice A3703 ((t3694.2.2).length) n3705) := blk_cellv (HS.out.nth 11 rfl) 1 rfl
                                      have hc4382 : w4379.cell? ⟨g3150, 1, none⟩ = some (.slice A3146 ((t3137.2.2).length) n3148) := blk_cellv (HS.out.nth 9 rfl) 1 rfl
                                      go_wp2_with fail
                                      clear hc4381 hc4382
                                      obtain ⟨t4383, HA4384, H⟩ := bind_some H
                                      refine (quitrentref01_Same.calls _ t3694.2.2 t3137.2.2 A3703 n3705 A3146 n3148 t4383 _ ⟨Rd.ownI (l := []) HS.out 1 rfl⟩ ⟨Rd.ownI (l := []) HS.out 5 rfl⟩ ⟨HGl0.out.pass (l := []) HS.out⟩ ⟨Sep.start _⟩ HA4384).mono ?_
                                      rintro e_ w4385 ⟨rfl, hS⟩
                                      replace HS : Aside0 (Sep (fps []) w [r18 A3699 ((t3694.2.1).length) n3701 t3694.2.1, r6 A3703 ((t3694.2.2).length) n3705 t3694.2.2, r18 A3674 ((t3669.2.1).length) n3676 t3669.2.1, r6 A3678 ((t3669.2.2).length) n3680 t3669.2.2, r18 (some ⟨g3607, 0, none⟩) y3609.length n3144 y3609, r6 A3146 ((t3137.2.2).length) n3148 t3137.2.2, r18 A3117 ((t3112.2.1).length) n3119 t3112.2.1, r6 (some ⟨g3461, 0, none⟩) y3463.length n3123 y3463, b20 g3125 A3117 ((t3112.2.1).length) n3119 (some ⟨g3461, 0, none⟩) y3463.length n3123, b20 g3150 (some ⟨g3607, 0, none⟩) y3609.length n3144 A3146 ((t3137.2.2).length) n3148, b20 g3682 A3674 ((t3669.2.1).length) n3676 A3678 ((t3669.2.2).length) n3680, b20 g3707 A3699 ((t3694.2.1).length) n3701 A3703 ((t3694.2.2).length) n3705] w4385) := ⟨HS.out.call hS⟩
                                      clear hS
                                      replace HS : Aside0 (Sep (fps []) w [] w4385) := ⟨HS.out.sub (.cons _ (.cons _ (.cons _ (.cons _ (.cons _ (.cons _ (.cons _ (.cons _ (.cons _ (.cons _ (.cons _ (.cons _ .slnil))))))))))))⟩
                                      go_wp2_with fail
                                      go_ret
                                      rw [← some_eq H]
                                      exact ⟨(by first | rfl | (simp [IntKind.wrap_u32]; done)), HS.out⟩
                                    · replace H := if_no c4380 H
                                      have c4380b0 : t4377 = false := by simpa using c4380
                                      have c4380b1 : (!t4377) = true := by rw [c4380b0]; rfl
                                      clear c4380
                                      replace HS : Aside0 (Sep (fps []) w [] w4379) := ⟨HS.out.sub (.cons _ (.cons _ (.cons _ (.cons _ (.cons _ (.cons _ (.cons _ (.cons _ (.cons _ (.cons _ (.cons _ (.cons _ .slnil))))))))))))⟩
                                      go_wp2_with fail
                                      go_ret
                                      rw [← some_eq H]
                                      exact ⟨(by first | rfl | (simp [IntKind.wrap_u32]; done)), HS.out⟩
                                  · replace H := if_no c4374 H
                                    have c4374b0 : t4371 = false := by simpa using c4374
                                    have c4374b1 : (!t4371) = true := by rw [c4374b0]; rfl
                                    clear c4374
                                    replace HS : Aside0 (Sep (fps []) w [] w4373) := ⟨HS.out.sub (.cons _ (.cons _ (.cons _ (.cons _ (.cons _ (.cons _ (.cons _ (.cons _ (.cons _ (.cons _ (.cons _ (.cons _ .slnil))))))))))))⟩
                                    go_wp2_with fail
                                    go_ret
                                    rw [← some_eq H]
                                    exact ⟨(by first | rfl | (simp [IntKind.wrap_u32]; done)), HS.out⟩
                                · replace H := if_no c4329 H
                                  have c4329b0 : t4326 = false := by simpa using c4329
                                  have c4329b1 : (!t4326) = true := by rw [c4329b0]; rfl
                                  clear c4329
                                  replace HS : Aside0 (Sep (fps []) w [] w4328) := ⟨HS.out.sub (.cons _ (.cons _ (.cons _ (.cons _ (.cons _ (.cons _ (.cons _ (.cons _ (.cons _ (.cons _ (.cons _ (.cons _ .slnil))))))))))))⟩
                                  go_wp2_with fail
                                  go_ret
                                  rw [← some_eq H]
                                  exact ⟨(by first | rfl | (simp [IntKind.wrap_u32]; done)), HS.out⟩
                              · replace H := if_no c4323 H
                                have c4323b0 : t4320 = false := by simpa using c4323
                                have c4323b1 : (!t4320) = true := by rw [c4323b0]; rfl
                                clear c4323
                                replace HS : Aside0 (Sep (fps []) w [] w4322) := ⟨HS.out.sub (.cons _ (.cons _ (.cons _ (.cons _ (.cons _ (.cons _ (.cons _ (.cons _ (.cons _ (.cons _ (.cons _ (.cons _ .slnil))))))))))))⟩
                                go_wp2_with fail
                                go_ret
                                rw [← some_eq H]
                                exact ⟨(by first | rfl | (simp [IntKind.wrap_u32]; done)), HS.out⟩
                            · replace H := if_no c3668 H
                              have c3668b0 : (t3664.2.1 == 0) = false := beq_eq_false_iff_ne.mpr c3668
                              have c3668b1 : (t3664.2.1 != 0) = true := bne_iff_ne.mpr c3668
                              clear c3668
                              replace HS : Aside0 (Sep (fps []) w [] w3666) := ⟨HS.out.sub (.cons _ (.cons _ (.cons _ (.cons _ (.cons _ (.cons _ (.cons _ (.cons _ (.cons _ .slnil)))))))))⟩
                              go_wp2_with fail
                              go_ret
                              rw [← some_eq H]
                              exact ⟨(by first | rfl | (simp [IntKind.wrap_u32]; done)), HS.out⟩
                          · replace H := if_no c3667 H
                            have c3667b0 : (t3664.1 == t2552.1) = false := beq_eq_false_iff_ne.mpr c3667
                            have c3667b1 : (t3664.1 != t2552.1) = true := bne_iff_ne.mpr c3667
                            clear c3667
                            replace HS : Aside0 (Sep (fps []) w [] w3666) := ⟨HS.out.sub (.cons _ (.cons _ (.cons _ (.cons _ (.cons _ (.cons _ (.cons _ (.cons _ (.cons _ .slnil)))))))))⟩
                            go_wp2_with fail
                            go_ret
                            rw [← some_eq H]
                            exact ⟨(by first | rfl | (simp [IntKind.wrap_u32]; done)), HS.out⟩
                        · replace H := if_no c3606 H
                          have c3606b0 : decide (a6 < ((t3137.2.1).length : Int)) = false := decide_eq_false c3606
                          clear c3606
                          exact (none_no H).elim
                      · replace H := if_no c3605 H
                        have c3605b0 : decide (0 ≤ a6) = false := decide_eq_false c3605
                        clear c3605
                        exact (none_no H).elim
                    · replace H := if_no c3603 H
                      have c3603b0 : (t3600.1 == 0) = false := beq_eq_false_iff_ne.mpr c3603
                      have c3603b1 : (t3600.1 != 0) = true := bne_iff_ne.mpr c3603
                      clear c3603
                      go_wp2_with fail
                      obtain ⟨t3669, HA4386, H⟩ := bind_some H
                      refine (obj_See.calls _ t3600.2.2 t3600.2.1 t1611.2.1 t1611.2.2.1 t1611.2.2.2.1 t1611.2.2.2.2.1 t2552.1 g1620 g1621 A1622 ((t1611.2.2.2.2.2.2).length) n1624 t3669 _ ⟨HGl0.out.pass HS.out⟩ ⟨HS.out.begin⟩ HA4386).mono ?_
                      rintro e_ w4387 ⟨A4390, m4391, n4392, A4394, m4395, n4396, rfl, hS⟩
                      replace HS : Aside0 (Sep (fps []) w [b8 g1620 g1621 t1611.2.1 t1611.2.2.1 t1611.2.2.2.1 t1611.2.2.2.2.1, b7 g1621 A1622 ((t1611.2.2.2.2.2.2).length) n1624 t3600.2.1, r6 A1622 ((t1611.2.2.2.2.2.2).length) n1624 t3600.2.2, r18 A4390 m4391 n4392 t3669.2.1, r6 A4394 m4395 n4396 t3669.2.2, r18 A3142 ((t3137.2.1).length) n3144 t3137.2.1, r6 A3146 ((t3137.2.2).length) n3148 t3137.2.2, r18 A3117 ((t3112.2.1).length) n3119 t3112.2.1, r6 (some ⟨g3461, 0, none⟩) ((t3112.2.2).length) n3123 y3463, b20 g3125 A3117 ((t3112.2.1).length) n3119 (some ⟨g3461, 0, none⟩) ((t3112.2.2).length) n3123, b20 g3150 A3142 ((t3137.2.1).length) n3144 A3146 ((t3137.2.2).length) n3148] w4387) := ⟨HS.out.call hS⟩
                      clear hS
                      obtain rfl := (row_len (HS.out.at3)).symm
                      obtain rfl := (row_len (HS.out.at4)).symm
                      go_wp2_with (first | ((with_reducible refine gate_dst (N := 25) rfl ?_); refine box_on ?hg (N := 25) ?hd (cs := #[.slice none 0 0, .slice none 0 0]) (t := 71) ?hr ?_; (case hd => rfl); (case hg => rfl); (case hr => first | (go_simp; done) | (go_simp; rfl)); intro g4398 hg w4399 hbox hb; replace HS : Aside0 (Sep (fps []) w [b8 g1620 g1621 t1611.2.1 t1611.2.2.1 t1611.2.2.2.1 t1611.2.2.2.2.1, b7 g1621 A1622 ((t1611.2.2.2.2.2.2).length) n1624 t3600.2.1, r6 A1622 ((t1611.2.2.2.2.2.2).length) n1624 t3600.2.2, r18 A4390 ((t3669.2.1).length) n4392 t3669.2.1, r6 A4394 ((t3669.2.2).length) n4396 t3669.2.2, r18 A3142 ((t3137.2.1).length) n3144 t3137.2.1, r6 A3146 ((t3137.2.2).length) n3148 t3137.2.2, r18 A3117 ((t3112.2.1).length) n3119 t3112.2.1, r6 (some ⟨g3461, 0, none⟩) ((t3112.2.2).length) n3123 y3463, b20 g3125 A3117 ((t3112.2.1).length) n3119 (some ⟨g3461, 0, none⟩) ((t3112.2.2).length) n3123, b20 g3150 A3142 ((t3137.2.1).length) n3144 A3146 ((t3137.2.2).length) n3148, b17 g4398] w4399) := ⟨HS.out.box hg hbox hb⟩; clear hg hbox hb; replace HS : Aside0 (Sep (fps []) w [r18 none 0 0 [], b8 g1620 g1621 t1611.2.1 t1611.2.2.1 t1611.2.2.2.1 t1611.2.2.2.2.1, b7 g1621 A1622 ((t1611.2.2.2.2.2.2).length) n1624 t3600.2.1, r6 A1622 ((t1611.2.2.2.2.2.2).length) n1624 t3600.2.2, r18 A4390 ((t3669.2.1).length) n4392 t3669.2.1, r6 A4394 ((t3669.2.2).length) n4396 t3669.2.2, r18 A3142 ((t3137.2.1).length) n3144 t3137.2.1, r6 A3146 ((t3137.2.2).length) n3148 t3137.2.2, r18 A3117 ((t3112.2.1).length) n3119 t3112.2.1, r6 (some ⟨g3461, 0, none⟩) ((t3112.2.2).length) n3123 y3463, b20 g3125 A3117 ((t3112.2.1).length) n3119 (some ⟨g3461, 0, none⟩) ((t3112.2.2).length) n3123, b20 g3150 A3142 ((t3137.2.1).length) n3144 A3146 ((t3137.2.2).length) n3148, b19 g4398 none 0 0] w4399) := ⟨HS.out.nilrow 3 (Value.int .i64)⟩; replace HS : Aside0 (Sep (fps []) w [r6 none 0 0 [], r18 none 0 0 [], b8 g1620 g1621 t1611.2.1 t1611.2.2.1 t1611.2.2.2.1 t1611.2.2.2.2.1, b7 g1621 A1622 ((t1611.2.2.2.2.2.2).length) n1624 t3600.2.1, r6 A1622 ((t1611.2.2.2.2.2.2).length) n1624 t3600.2.2, r18 A4390 ((t3669.2.1).length) n4392 t3669.2.1, r6 A4394 ((t3669.2.2).length) n4396 t3669.2.2, r18 A3142 ((t3137.2.1).length) n3144 t3137.2.1, r6 A3146 ((t3137.2.2).length) n3148 t3137.2.2, r18 A3117 ((t3112.2.1).length) n3119 t3112.2.1, r6 (some ⟨g3461, 0, none⟩) ((t3112.2.2).length) n3123 y3463, b20 g3125 A3117 ((t3112.2.1).length) n3119 (some ⟨g3461, 0, none⟩) ((t3112.2.2).length) n3123, b20 g3150 A3142 ((t3137.2.1).length) n3144 A3146 ((t3137.2.2).length) n3148, b20 g4398 none 0 0 none 0 0] w4399) := ⟨HS.out.nilrow 33 (Value.int .u32)⟩; have hc4405 : w4399.cell? ⟨g4398, 0, none⟩ = some (.slice none 0 0) := blk_cellv (HS.out.nth 13 rfl) 0 rfl; have hz4406 : w4399.frozen? ⟨g4398, 0, none⟩ = false := blk_fz (HS.out.nth 13 rfl) 0; have hc4407 : w4399.cell? ⟨g4398, 1, none⟩ = some (.slice none 0 0) := blk_cellv (HS.out.nth 13 rfl) 1 rfl; have hz4408 : w4399.frozen? ⟨g4398, 1, none⟩ = false := blk_fz (HS.out.nth 13 rfl) 1) | ((with_reducible refine gate_store (t := 71) (p := 25) rfl ?_); refine store_event (w1 := (World.setCell (World.setCell w4399 ⟨g4398, 0, none⟩ (.slice A4390 ((t3669.2.1).length) n4392)) ⟨g4398, 1, none⟩ (.slice A4394 ((t3669.2.2).length) n4396))) rfl (t := 71) (p := 25) rfl rfl ?hr ?_; (case hr => first | (go_simp; done) | (go_simp; rfl)); intro w4409 hst; clear hc4405 hz4406 hc4407 hz4408; have hq0 : Sep (fps []) w [r6 none 0 0 [], r18 none 0 0 [], b8 g1620 g1621 t1611.2.1 t1611.2.2.1 t1611.2.2.2.1 t1611.2.2.2.2.1, b7 g1621 A1622 ((t1611.2.2.2.2.2.2).length) n1624 t3600.2.1, r6 A1622 ((t1611.2.2.2.2.2.2).length) n1624 t3600.2.2, r18 A4390 ((t3669.2.1).length) n4392 t3669.2.1, r6 A4394 ((t3669.2.2).length) n4396 t3669.2.2, r18 A3142 ((t3137.2.1).length) n3144 t3137.2.1, r6 A3146 ((t3137.2.2).length) n3148 t3137.2.2, r18 A3117 ((t3112.2.1).length) n3119 t3112.2.1, r6 (some ⟨g3461, 0, none⟩) ((t3112.2.2).length) n3123 y3463, b20 g3125 A3117 ((t3112.2.1).length) n3119 (some ⟨g3461, 0, none⟩) ((t3112.2.2).length) n3123, b20 g3150 A3142 ((t3137.2.1).length) n3144 A3146 ((t3137.2.2).length) n3148, b20 g4398 A4390 ((t3669.2.1).length) n4392 none 0 0] (World.setCell w4399 ⟨g4398, 0, none⟩ (.slice A4390 ((t3669.2.1).length) n4392)) := (HS.out).set1 (l1 := [r6 none 0 0 [], r18 none 0 0 [], b8 g1620 g1621 t1611.2.1 t1611.2.2.1 t1611.2.2.2.1 t1611.2.2.2.2.1, b7 g1621 A1622 ((t1611.2.2.2.2.2.2).length) n1624 t3600.2.1, r6 A1622 ((t1611.2.2.2.2.2.2).length) n1624 t3600.2.2, r18 A4390 ((t3669.2.1).length) n4392 t3669.2.1, r6 A4394 ((t3669.2.2).length) n4396 t3669.2.2, r18 A3142 ((t3137.2.1).length) n3144 t3137.2.1, r6 A3146 ((t3137.2.2).length) n3148 t3137.2.2, r18 A3117 ((t3112.2.1).length) n3119 t3112.2.1, r6 (some ⟨g3461, 0, none⟩) ((t3112.2.2).length) n3123 y3463, b20 g3125 A3117 ((t3112.2.1).length) n3119 (some ⟨g3461, 0, none⟩) ((t3112.2.2).length) n3123, b20 g3150 A3142 ((t3137.2.1).length) n3144 A3146 ((t3137.2.2).length) n3148]) (l2 := []) 0 (.slice A4390 ((t3669.2.1).length) n4392); have hq1 : Sep (fps []) w [r6 none 0 0 [], r18 none 0 0 [], b8 g1620 g1621 t1611.2.1 t1611.2.2.1 t1611.2.2.2.1 t1611.2.2.2.2.1, b7 g1621 A1622 ((t1611.2.2.2.2.2.2).length) n1624 t3600.2.1, r6 A1622 ((t1611.2.2.2.2.2.2).length) n1624 t3600.2.2, r18 A4390 ((t3669.2.1).length) n4392 t3669.2.1, r6 A4394 ((t3669.2.2).length) n4396 t3669.2.2, r18 A3142 ((t3137.2.1).length) n3144 t3137.2.1, r6 A3146 ((t3137.2.2).length) n3148 t3137.2.2, r18 A3117 ((t3112.2.1).length) n3119 t3112.2.1, r6 (some ⟨g3461, 0, none⟩) ((t3112.2.2).length) n3123 y3463, b20 g3125 A3117 ((t3112.2.1).length) n3119 (some ⟨g3461, 0, none⟩) ((t3112.2.2).length) n3123, b20 g3150 A3142 ((t3137.2.1).length) n3144 A3146 ((t3137.2.2).length) n3148, b20 g4398 A4390 ((t3669.2.1).length) n4392 A4394 ((t3669.2.2).length) n4396] (World.setCell (World.setCell w4399 ⟨g4398, 0, none⟩ (.slice A4390 ((t3669.2.1).length) n4392)) ⟨g4398, 1, none⟩ (.slice A4394 ((t3669.2.2).length) n4396)) := (hq0).set1 (l1 := [r6 none 0 0 [], r18 none 0 0 [], b8 g1620 g1621 t1611.2.1 t1611.2.2.1 t1611.2.2.2.1 t1611.2.2.2.2.1, b7 g1621 A1622 ((t1611.2.2.2.2.2.2).length) n1624 t3600.2.1, r6 A1622 ((t1611.2.2.2.2.2.2).length) n1624 t3600.2.2, r18 A4390 ((t3669.2.1).length) n4392 t3669.2.1, r6 A4394 ((t3669.2.2).length) n4396 t3669.2.2, r18 A3142 ((t3137.2.1).length) n3144 t3137.2.1, r6 A3146 ((t3137.2.2).length) n3148 t3137.2.2, r18 A3117 ((t3112.2.1).length) n3119 t3112.2.1, r6 (some ⟨g3461, 0, none⟩) ((t3112.2.2).length) n3123 y3463, b20 g3125 A3117 ((t3112.2.1).length) n3119 (some ⟨g3461, 0, none⟩) ((t3112.2.2).length) n3123, b20 g3150 A3142 ((t3137.2.1).length) n3144 A3146 ((t3137.2.2).length) n3148]) (l2 := []) 1 (.slice A4394 ((t3669.2.2).length) n4396); replace HS : Aside0 (Sep (fps []) w [r6 none 0 0 [], r18 none 0 0 [], b8 g1620 g1621 t1611.2.1 t1611.2.2.1 t1611.2.2.2.1 t1611.2.2.2.2.1, b7 g1621 A1622 ((t1611.2.2.2.2.2.2).length) n1624 t3600.2.1, r6 A1622 ((t1611.2.2.2.2.2.2).length) n1624 t3600.2.2, r18 A4390 ((t3669.2.1).length) n4392 t3669.2.1, r6 A4394 ((t3669.2.2).length) n4396 t3669.2.2, r18 A3142 ((t3137.2.1).length) n3144 t3137.2.1, r6 A3146 ((t3137.2.2).length) n3148 t3137.2.2, r18 A3117 ((t3112.2.1).length) n3119 t3112.2.1, r6 (some ⟨g3461, 0, none⟩) ((t3112.2.2).length) n3123 y3463, b20 g3125 A3117 ((t3112.2.1).length) n3119 (some ⟨g3461, 0, none⟩) ((t3112.2.2).length) n3123, b20 g3150 A3142 ((t3137.2.1).length) n3144 A3146 ((t3137.2.2).length) n3148, b20 g4398 A4390 ((t3669.2.1).length) n4392 A4394 ((t3669.2.2).length) n4396] w4409) := ⟨by rw [hst]; exact hq1⟩; clear hq0 hq1; clear hst; replace HS : Aside0 (Sep (fps []) w [b8 g1620 g1621 t1611.2.1 t1611.2.2.1 t1611.2.2.2.1 t1611.2.2.2.2.1, b7 g1621 A1622 ((t1611.2.2.2.2.2.2).length) n1624 t3600.2.1, r6 A1622 ((t1611.2.2.2.2.2.2).length) n1624 t3600.2.2, r18 A4390 ((t3669.2.1).length) n4392 t3669.2.1, r6 A4394 ((t3669.2.2).length) n4396 t3669.2.2, r18 A3142 ((t3137.2.1).length) n3144 t3137.2.1, r6 A3146 ((t3137.2.2).length) n3148 t3137.2.2, r18 A3117 ((t3112.2.1).length) n3119 t3112.2.1, r6 (some ⟨g3461, 0, none⟩) ((t3112.2.2).length) n3123 y3463, b20 g3125 A3117 ((t3112.2.1).length) n3119 (some ⟨g3461, 0, none⟩) ((t3112.2.2).length) n3123, b20 g3150 A3142 ((t3137.2.1).length) n3144 A3146 ((t3137.2.2).length) n3148, b20 g4398 A4390 ((t3669.2.1).length) n4392 A4394 ((t3669.2.2).length) n4396] w4409) := ⟨HS.out.sub (.cons _ (.cons _ (.cons_cons _ (.cons_cons _ (.cons_cons _ (.cons_cons _ (.cons_cons _ (.cons_cons _ (.cons_cons _ (.cons_cons _ (.cons_cons _ (.cons_cons _ (.cons_cons _ (.cons_cons _ .slnil))))))))))))))⟩))
                      obtain ⟨t3694, HA4410, H⟩ := bind_some H
                      refine (obj_See.calls _ t3600.2.2 t3600.2.1 t1611.2.1 t1611.2.2.1 t1611.2.2.2.1 t1611.2.2.2.2.1 t2557.1 g1620 g1621 A1622 ((t1611.2.2.2.2.2.2).length) n1624 t3694 _ ⟨HGl0.out.pass HS.out⟩ ⟨HS.out.begin⟩ HA4410).mono ?_
                      rintro e_ w4411 ⟨A4414, m4415, n4416, A4418, m4419, n4420, rfl, hS⟩
                      replace HS : Aside0 (Sep (fps []) w [b8 g1620 g1621 t1611.2.1 t1611.2.2.1 t1611.2.2.2.1 t1611.2.2.2.2.1, b7 g1621 A1622 ((t1611.2.2.2.2.2.2).length) n1624 t3600.2.1, r6 A1622 ((t1611.2.2.2.2.2.2).length) n1624 t3600.2.2, r18 A4414 m4415 n4416 t3694.2.1, r6 A4418 m4419 n4420 t3694.2.2, r18 A4390 ((t3669.2.1).length) n4392 t3669.2.1, r6 A4394 ((t3669.2.2).length) n4396 t3669.2.2, r18 A3142 ((t3137.2.1).length) n3144 t3137.2.1, r6 A3146 ((t3137.2.2).length) n3148 t3137.2.2, r18 A3117 ((t3112.2.1).length) n3119 t3112.2.1, r6 (some ⟨g3461, 0, none⟩) ((t3112.2.2).length) n3123 y3463, b20 g3125 A3117 ((t3112.2.1).length) n3119 (some ⟨g3461, 0, none⟩) ((t3112.2.2).length) n3123, b20 g3150 A3142 ((t3137.2.1).length) n3144 A3146 ((t3137.2.2).length) n3148, b20 g4398 A4390 ((t3669.2.1).length) n4392 A4394 ((t3669.2.2).length) n4396] w4411) := ⟨HS.out.call hS⟩
                      clear hS
                      obtain rfl := (row_len (HS.out.at3)).symm
                      obtain rfl := (row_len (HS.out.at4)).symm
                      go_wp2_with (first | ((with_reducible refine gate_dst (N := 27) rfl ?_); refine box_on ?hg (N := 27) ?hd (cs := #[.slice none 0 0, .slice none 0 0]) (t := 71) ?hr ?_; (case hd => rfl); (case hg => rfl); (case hr => first | (go_simp; done) | (go_simp; rfl)); intro g4422 hg w4423 hbox hb; replace HS : Aside0 (Sep (fps []) w [b8 g1620 g1621 t1611.2.1 t1611.2.2.1 t1611.2.2.2.1 t1611.2.2.2.2.1, b7 g1621 A1622 ((t1611.2.2.2.2.2.2).length) n1624 t3600.2.1, r6 A1622 ((t1611.2.2.2.2.2.2).length) n1624 t3600.2.2, r18 A4414 ((t3694.2.1).length) n4416 t3694.2.1, r6 A4418 ((t3694.2.2).length) n4420 t3694.2.2, r18 A4390 ((t3669.2.1).length) n4392 t3669.2.1, r6 A4394 ((t3669.2.2).length) n4396 t3669.2.2, r18 A3142 ((t3137.2.1).length) n3144 t3137.2.1, r6 A3146 ((t3137.2.2).length) n3148 t3137.2.2, r18 A3117 ((t3112.2.1).length) n3119 t3112.2.1, r6 (some ⟨g3461, 0, none⟩) ((t3112.2.2).length) n3123 y3463, b20 g3125 A3117 ((t3112.2.1).length) n3119 (some ⟨g3461, 0, none⟩) ((t3112.2.2).length) n3123, b20 g3150 A3142 ((t3137.2.1).length) n3144 A3146 ((t3137.2.2).length) n3148, b20 g4398 A4390 ((t3669.2.1).length) n4392 A4394 ((t3669.2.2).length) n4396, b17 g4422] w4423) := ⟨HS.out.box hg hbox hb⟩; clear hg hbox hb; replace HS : Aside0 (Sep (fps []) w [r18 none 0 0 [], b8 g1620 g1621 t1611.2.1 t1611.2.2.1 t1611.2.2.2.1 t1611.2.2.2.2.1, b7 g1621 A1622 ((t1611.2.2.2.2.2.2).length) n1624 t3600.2.1, r6 A1622 ((t1611.2.2.2.2.2.2).length) n1624 t3600.2.2, r18 A4414 ((t3694.2.1).length) n4416 t3694.2.1, r6 A4418 ((t3694.2.2).length) n4420 t3694.2.2, r18 A4390 ((t3669.2.1).length) n4392 t3669.2.1, r6 A4394 ((t3669.2.2).length) n4396 t3669.2.2, r18 A3142 ((t3137.2.1).length) n3144 t3137.2.1, r6 A3146 ((t3137.2.2).length) n3148 t3137.2.2, r18 A3117 ((t3112.2.1).length) n3119 t3112.2.1, r6 (some ⟨g3461, 0, none⟩) ((t3112.2.2).length) n3123 y3463, b20 g3125 A3117 ((t3112.2.1).length) n3119 (some ⟨g3461, 0, none⟩) ((t3112.2.2).length) n3123, b20 g3150 A3142 ((t3137.2.1).length) n3144 A3146 ((t3137.2.2).length) n3148, b20 g4398 A4390 ((t3669.2.1).length) n4392 A4394 ((t3669.2.2).length) n4396, b19 g4422 none 0 0] w4423) := ⟨HS.out.nilrow 3 (Value.int .i64)⟩; replace HS : Aside0 (Sep (fps []) w [r6 none 0 0 [], r18 none 0 0 [], b8 g1620 g1621 t1611.2.1 t1611.2.2.1 t1611.2.2.2.1 t1611.2.2.2.2.1, b7 g1621 A1622 ((t1611.2.2.2.2.2.2).length) n1624 t3600.2.1, r6 A1622 ((t1611.2.2.2.2.2.2).length) n1624 t3600.2.2, r18 A4414 ((t3694.2.1).length) n4416 t3694.2.1, r6 A4418 ((t3694.2.2).length) n4420 t3694.2.2, r18 A4390 ((t3669.2.1).length) n4392 t3669.2.1, r6 A4394 ((t3669.2.2).length) n4396 t3669.2.2, r18 A3142 ((t3137.2.1).length) n3144 t3137.2.1, r6 A3146 ((t3137.2.2).length) n3148 t3137.2.2, r18 A3117 ((t3112.2.1).length) n3119 t3112.2.1, r6 (some ⟨g3461, 0, none⟩) ((t3112.2.2).length) n3123 y3463, b20 g3125 A3117 ((t3112.2.1).length) n3119 (some ⟨g3461, 0, none⟩) ((t3112.2.2).length) n3123, b20 g3150 A3142 ((t3137.2.1).length) n3144 A3146 ((t3137.2.2).length) n3148, b20 g4398 A4390 ((t3669.2.1).length) n4392 A4394 ((t3669.2.2).length) n4396, b20 g4422 none 0 0 none 0 0] w4423) := ⟨HS.out.nilrow 33 (Value.int .u32)⟩; have hc4429 : w4423.cell? ⟨g4422, 0, none⟩ = some (.slice none 0 0) := blk_cellv (HS.out.nth 16 rfl) 0 rfl; have hz4430 : w4423.frozen? ⟨g4422, 0, none⟩ = false := blk_fz (HS.out.nth 16 rfl) 0; have hc4431 : w4423.cell? ⟨g4422, 1, none⟩ = some (.slice none 0 0) := blk_cellv (HS.out.nth 16 rfl) 1 rfl; have hz4432 : w4423.frozen? ⟨g4422, 1, none⟩ = false := blk_fz (HS.out.nth 16 rfl) 1) | ((with_reducible refine gate_store (t := 71) (p := 27) rfl ?_); refine store_event (w1 := (World.setCell (World.setCell w4423 ⟨g4422, 0, none⟩ (.slice A4414 ((t3694.2.1).length) n4416)) ⟨g4422, 1, none⟩ (.slice A4418 ((t3694.2.2).length) n4420))) rfl (t := 71) (p := 27) rfl rfl ?hr ?_; (case hr => first | (go_simp; done) | (go_simp; rfl)); intro w4433 hst; clear hc4429 hz4430 hc4431 hz4432; have hq0 : Sep (fps []) w [r6 none 0 0 [], r18 none 0 0 [], b8 g1620 g1621 t1611.2.1 t1611.2.2.1 t1611.2.2.2.1 t1611.2.2.2.2.1, b7 g1621 A1622 ((t1611.2.2.2.2.2.2).length) n1624 t3600.2.1, r6 A1622 ((t1611.2.2.2.2.2.2).length) n1624 t3600.2.2, r18 A4414 ((t3694.2.1).length) n4416 t3694.2.1, r6 A4418 ((t3694.2.2).length) n4420 t3694.2.2, r18 A4390 ((t3669.2.1).length) n4392 t3669.2.1, r6 A4394 ((t3669.2.2).length) n4396 t3669.2.2, r18 A3142 ((t3137.2.1).length) n3144 t3137.2.1, r6 A3146 ((t3137.2.2).length) n3148 t3137.2.2, r18 A3117 ((t3112.2.1).length) n3119 t3112.2.1, r6 (some ⟨g3461, 0, none⟩) ((t3112.2.2).length) n3123 y3463, b20 g3125 A3117 ((t3112.2.1).length) n3119 (some ⟨g3461, 0, none⟩) ((t3112.2.2).length) n3123, b20 g3150 A3142 ((t3137.2.1).length) n3144 A3146 ((t3137.2.2).length) n3148, b20 g4398 A4390 ((t3669.2.1).length) n4392 A4394 ((t3669.2.2).length) n4396, b20 g4422 A4414 ((t3694.2.1).length) n4416 none 0 0] (World.setCell w4423 ⟨g4422, 0, none⟩ (.slice A4414 ((t3694.2.1).length) n4416)) := (HS.out).set1 (l1 := [r6 none 0 0 [], r18 none 0 0 [], b8 g1620 g1621 t1611.2.1 t1611.2.2.1 t1611.2.2.2.1 t1611.2.2.2.2.1, b7 g1621 A1622 ((t1611.2.2.2.2.2.2).length) n1624 t3600.2.1, r6 A1622 ((t1611.2.2.2.2.2.2).length) n1624 t3600.2.2, r18 A4414 ((t3694.2.1).length) n4416 t3694.2.1, r6 A4418 ((t3694.2.2).length) n4420 t3694.2.2, r18 A4390 ((t3669.2.1).length) n4392 t3669.2.1, r6 A4394 ((t3669.2.2).length) n4396 t3669.2.2, r18 A3142 ((t3137.2.1).length) n3144 t3137.2.1, r6 A3146 ((t3137.2.2).length) n3148 t3137.2.2, r18 A3117 ((t3112.2.1).length) n3119 t3112.2.1, r6 (some ⟨g3461, 0, none⟩) ((t3112.2.2).length) n3123 y3463, b20 g3125 A3117 ((t3112.2.1).length) n3119 (some ⟨g3461, 0, none⟩) ((t3112.2.2).length) n3123, b20 g3150 A3142 ((t3137.2.1).length) n3144 A3146 ((t3137.2.2).length) n3148, b20 g4398 A4390 ((t3669.2.1).length) n4392 A4394 ((t3669.2.2).length) n4396]) (l2 := []) 0 (.slice A4414 ((t3694.2.1).length) n4416); have hq1 : Sep (fps []) w [r6 none 0 0 [], r18 none 0 0 [], b8 g1620 g1621 t1611.2.1 t1611.2.2.1 t1611.2.2.2.1 t1611.2.2.2.2.1, b7 g1621 A1622 ((t1611.2.2.2.2.2.2).length) n1624 t3600.2.1, r6 A1622 ((t1611.2.2.2.2.2.2).length) n1624 t3600.2.2, r18 A4414 ((t3694.2.1).length) n4416 t3694.2.1, r6 A4418 ((t3694.2.2).length) n4420 t3694.2.2, r18 A4390 ((t3669.2.1).length) n4392 t3669.2.1, r6 A4394 ((t3669.2.2).length) n4396 t3669.2.2, r18 A3142 ((t3137.2.1).length) n3144 t3137.2.1, r6 A3146 ((t3137.2.2).length) n3148 t3137.2.2, r18 A3117 ((t3112.2.1).length) n3119 t3112.2.1, r6 (some ⟨g3461, 0, none⟩) ((t3112.2.2).length) n3123 y3463, b20 g3125 A3117 ((t3112.2.1).length) n3119 (some ⟨g3461, 0, none⟩) ((t3112.2.2).length) n3123, b20 g3150 A3142 ((t3137.2.1).length) n3144 A3146 ((t3137.2.2).length) n3148, b20 g4398 A4390 ((t3669.2.1).length) n4392 A4394 ((t3669.2.2).length) n4396, b20 g4422 A4414 ((t3694.2.1).length) n4416 A4418 ((t3694.2.2).length) n4420] (World.setCell (World.setCell w4423 ⟨g4422, 0, none⟩ (.slice A4414 ((t3694.2.1).length) n4416)) ⟨g4422, 1, none⟩ (.slice A4418 ((t3694.2.2).length) n4420)) := (hq0).set1 (l1 := [r6 none 0 0 [], r18 none 0 0 [], b8 g1620 g1621 t1611.2.1 t1611.2.2.1 t1611.2.2.2.1 t1611.2.2.2.2.1, b7 g1621 A1622 ((t1611.2.2.2.2.2.2).length) n1624 t3600.2.1, r6 A1622 ((t1611.2.2.2.2.2.2).length) n1624 t3600.2.2, r18 A4414 ((t3694.2.1).length) n4416 t3694.2.1, r6 A4418 ((t3694.2.2).length) n4420 t3694.2.2, r18 A4390 ((t3669.2.1).length) n4392 t3669.2.1, r6 A4394 ((t3669.2.2).length) n4396 t3669.2.2, r18 A3142 ((t3137.2.1).length) n3144 t3137.2.1, r6 A3146 ((t3137.2.2).length) n3148 t3137.2.2, r18 A3117 ((t3112.2.1).length) n3119 t3112.2.1, r6 (some ⟨g3461, 0, none⟩) ((t3112.2.2).length) n3123 y3463, b20 g3125 A3117 ((t3112.2.1).length) n3119 (some ⟨g3461, 0, none⟩) ((t3112.2.2).length) n3123, b20 g3150 A3142 ((t3137.2.1).length) n3144 A3146 ((t3137.2.2).length) n3148, b20 g4398 A4390 ((t3669.2.1).length) n4392 A4394 ((t3669.2.2).length) n4396]) (l2 := []) 1 (.slice A4418 ((t3694.2.2).length) n4420); replace HS : Aside0 (Sep (fps []) w [r6 none 0 0 [], r18 none 0 0 [], b8 g1620 g1621 t1611.2.1 t1611.2.2.1 t1611.2.2.2.1 t1611.2.2.2.2.1, b7 g1621 A1622 ((t1611.2.2.2.2.2.2).length) n1624 t3600.2.1, r6 A1622 ((t1611.2.2.2.2.2.2).length) n1624 t3600.2.2, r18 A4414 ((t3694.2.1).length) n4416 t3694.2.1, r6 A4418 ((t3694.2.2).length) n4420 t3694.2.2, r18 A4390 ((t3669.2.1).length) n4392 t3669.2.1, r6 A4394 ((t3669.2.2).length) n4396 t3669.2.2, r18 A3142 ((t3137.2.1).length) n3144 t3137.2.1, r6 A3146 ((t3137.2.2).length) n3148 t3137.2.2, r18 A3117 ((t3112.2.1).length) n3119 t3112.2.1, r6 (some ⟨g3461, 0, none⟩) ((t3112.2.2).length) n3123 y3463, b20 g3125 A3117 ((t3112.2.1).length) n3119 (some ⟨g3461, 0, none⟩) ((t3112.2.2).length) n3123, b20 g3150 A3142 ((t3137.2.1).length) n3144 A3146 ((t3137.2.2).length) n3148, b20 g4398 A4390 ((t3669.2.1).length) n4392 A4394 ((t3669.2.2).length) n4396, b20 g4422 A4414 ((t3694.2.1).length) n4416 A4418 ((t3694.2.2).length) n4420] w4433) := ⟨by rw [hst]; exact hq1⟩; clear hq0 hq1; clear hst; replace HS : Aside0 (Sep (fps []) w [r18 A4414 ((t3694.2.1).length) n4416 t3694.2.1, r6 A4418 ((t3694.2.2).length) n4420 t3694.2.2, r18 A4390 ((t3669.2.1).length) n4392 t3669.2.1, r6 A4394 ((t3669.2.2).length) n4396 t3669.2.2, r18 A3142 ((t3137.2.1).length) n3144 t3137.2.1, r6 A3146 ((t3137.2.2).length) n3148 t3137.2.2, r18 A3117 ((t3112.2.1).length) n3119 t3112.2.1, r6 (some ⟨g3461, 0, none⟩) ((t3112.2.2).length) n3123 y3463, b20 g3125 A3117 ((t3112.2.1).length) n3119 (some ⟨g3461, 0, none⟩) ((t3112.2.2).length) n3123, b20 g3150 A3142 ((t3137.2.1).length) n3144 A3146 ((t3137.2.2).length) n3148, b20 g4398 A4390 ((t3669.2.1).length) n4392 A4394 ((t3669.2.2).length) n4396, b20 g4422 A4414 ((t3694.2.1).length) n4416 A4418 ((t3694.2.2).length) n4420] w4433) := ⟨HS.out.sub (.cons _ (.cons _ (.cons _ (.cons _ (.cons _ (.cons_cons _ (.cons_cons _ (.cons_cons _ (.cons_cons _ (.cons_cons _ (.cons_cons _ (.cons_cons _ (.cons_cons _ (.cons_cons _ (.cons_cons _ (.cons_cons _ (.cons_cons _ .slnil)))))))))))))))))⟩))
                      obtain ⟨t4320, HA4434, H⟩ := bind_some H
                      refine (quitrentlaw11_begun.calls _ t4320 _ ⟨HGl0.out.pass (l := []) HS.out⟩ ⟨Sep.start _⟩ HA4434).mono ?_
                      rintro e_ w4435 ⟨rfl, hS⟩
                      replace HS : Aside0 (Sep (fps []) w [r18 A4414 ((t3694.2.1).length) n4416 t3694.2.1, r6 A4418 ((t3694.2.2).length) n4420 t3694.2.2, r18 A4390 ((t3669.2.1).length) n4392 t3669.2.1, r6 A4394 ((t3669.2.2).length) n4396 t3669.2.2, r18 A3142 ((t3137.2.1).length) n3144 t3137.2.1, r6 A3146 ((t3137.2.2).length) n3148 t3137.2.2, r18 A3117 ((t3112.2.1).length) n3119 t3112.2.1, r6 (some ⟨g3461, 0, none⟩) ((t3112.2.2).length) n3123 y3463, b20 g3125 A3117 ((t3112.2.1).length) n3119 (some ⟨g3461, 0, none⟩) ((t3112.2.2).length) n3123, b20 g3150 A3142 ((t3137.2.1).length) n3144 A3146 ((t3137.2.2).length) n3148, b20 g4398 A4390 ((t3669.2.1).length) n4392 A4394 ((t3669.2.2).length) n4396, b20 g4422 A4414 ((t3694.2.1).length) n4416 A4418 ((t3694.2.2).length) n4420] w4435) := ⟨HS.out.call hS⟩
                      clear hS
                      by_cases c4436 : t4320 = true
                      · replace H := if_yes c4436 H
                        have c4436b0 : t4320 = true := c4436
                        have c4436b1 : (!t4320) = false := by rw [c4436b0]; rfl
                        clear c4436
                        have hc4437 : w4435.cell? ⟨g4398, 0, none⟩ = some (.slice A4390 ((t3669.2.1).length) n4392) := blk_cellv (HS.out.nth 10 rfl) 0 rfl
                        have hc4438 : w4435.cell? ⟨g3125, 0, none⟩ = some (.slice A3117 ((t3112.2.1).length) n3119) := blk_cellv (HS.out.at8) 0 rfl
                        go_wp2_with fail
                        clear hc4437 hc4438
                        obtain ⟨t4326, HA4439, H⟩ := bind_some H
                        refine (quitrentref01_Ints.calls _ t3669.2.1 t3112.2.1 A4390 n4392 A3117 n3119 t4326 _ ⟨Rd.ownI (l := []) HS.out 2 rfl⟩ ⟨Rd.ownI (l := []) HS.out 6 rfl⟩ ⟨HGl0.out.pass (l := []) HS.out⟩ ⟨Sep.start _⟩ HA4439).mono ?_
                        rintro e_ w4440 ⟨rfl, hS⟩
                        replace HS : Aside0 (Sep (fps []) w [r18 A4414 ((t3694.2.1).length) n4416 t3694.2.1, r6 A4418 ((t3694.2.2).length) n4420 t3694.2.2, r18 A4390 ((t3669.2.1).length) n4392 t3669.2.1, r6 A4394 ((t3669.2.2).length) n4396 t3669.2.2, r18 A3142 ((t3137.2.1).length) n3144 t3137.2.1, r6 A3146 ((t3137.2.2).length) n3148 t3137.2.2, r18 A3117 ((t3112.2.1).length) n3119 t3112.2.1, r6 (some ⟨g3461, 0, none⟩) ((t3112.2.2).length) n3123 y3463, b20 g3125 A3117 ((t3112.2.1).length) n3119 (some ⟨g3461, 0, none⟩) ((t3112.2.2).length) n3123, b20 g3150 A3142 ((t3137.2.1).length) n3144 A3146 ((t3137.2.2).length) n3148, b20 g4398 A4390 ((t3669.2.1).length) n4392 A4394 ((t3669.2.2).length) n4396, b20 g4422 A4414 ((t3694.2.1).length) n4416 A4418 ((t3694.2.2).length) n4420] w4440) := ⟨HS.out.call hS⟩
                        clear hS
                        by_cases c4441 : t4326 = true
                        · replace H := if_yes c4441 H
                          have c4441b0 : t4326 = true := c4441
                          have c4441b1 : (!t4326) = false := by rw [c4441b0]; rfl
                          clear c4441
                          have hc4442 : w4440.cell? ⟨g4398, 1, none⟩ = some (.slice A4394 ((t3669.2.2).length) n4396) := blk_cellv (HS.out.nth 10 rfl) 1 rfl
                          have hc4443 : w4440.cell? ⟨g3125, 1, none⟩ = some (.slice (some ⟨g3461, 0, none⟩) ((t3112.2.2).length) n3123) := blk_cellv (HS.out.at8) 1 rfl
                          go_wp2_with fail
                          clear hc4442 hc4443
                          have hl_ := row_len (HS.out.at7)
                          rw [← hl_] at HS ⊢
                          clear hl_
                          obtain ⟨t4371, HA4444, H⟩ := bind_some H
                          refine (quitrentref01_Same.calls _ t3669.2.2 y3463 A4394 n4396 (some ⟨g3461, 0, none⟩) n3123 t4371 _ ⟨Rd.ownI (l := []) HS.out 3 rfl⟩ ⟨Rd.ownI (l := []) HS.out 7 rfl⟩ ⟨HGl0.out.pass (l := []) HS.out⟩ ⟨Sep.start _⟩ HA4444).mono ?_
                          rintro e_ w4445 ⟨rfl, hS⟩
                          replace HS : Aside0 (Sep (fps []) w [r18 A4414 ((t3694.2.1).length) n4416 t3694.2.1, r6 A4418 ((t3694.2.2).length) n4420 t3694.2.2, r18 A4390 ((t3669.2.1).length) n4392 t3669.2.1, r6 A4394 ((t3669.2.2).length) n4396 t3669.2.2, r18 A3142 ((t3137.2.1).length) n3144 t3137.2.1, r6 A3146 ((t3137.2.2).length) n3148 t3137.2.2, r18 A3117 ((t3112.2.1).length) n3119 t3112.2.1, r6 (some ⟨g3461, 0, none⟩) y3463.length n3123 y3463, b20 g3125 A3117 ((t3112.2.1).length) n3119 (some ⟨g3461, 0, none⟩) y3463.length n3123, b20 g3150 A3142 ((t3137.2.1).length) n3144 A3146 ((t3137.2.2).length) n3148, b20 g4398 A4390 ((t3669.2.1).length) n4392 A4394 ((t3669.2.2).length) n4396, b20 g4422 A4414 ((t3694.2.1).length) n4416 A4418 ((t3694.2.2).length) n4420] w4445) := ⟨HS.out.call hS⟩
                          clear hS
                          by_cases c4446 : t4371 = true
                          · replace H := if_yes c4446 H
                            have c4446b0 : t4371 = true := c4446
                            have c4446b1 : (!t4371) = false := by rw [c4446b0]; rfl
                            clear c4446
                            have hc4447 : w4445.cell? ⟨g4422, 0, none⟩ = some (.slice A4414 ((t3694.2.1).length) n4416) := blk_cellv (HS.out.nth 11 rfl) 0 rfl
                            have hc4448 : w4445.cell? ⟨g3150, 0, none⟩ = some (.slice A3142 ((t3137.2.1).length) n3144) := blk_cellv (HS.out.nth 9 rfl) 0 rfl
                            go_wp2_with fail
                            clear hc4447 hc4448
                            obtain ⟨t4377, HA4449, H⟩ := bind_some H
                            refine (quitrentref01_Ints.calls _ t3694.2.1 t3137.2.1 A4414 n4416 A3142 n3144 t4377 _ ⟨Rd.ownI (l := []) HS.out 0 rfl⟩ ⟨Rd.ownI (l := []) HS.out 4 rfl⟩ ⟨HGl0.out.pass (l := []) HS.out⟩ ⟨Sep.start _⟩ HA4449).mono ?_
                            rintro e_ w4450 ⟨rfl, hS⟩
                            replace HS : Aside0 (Sep (fps []) w [r18 A4414 ((t3694.2.1).length) n4416 t3694.2.1, r6 A4418 ((t3694.2.2).length) n4420 t3694.2.2, r18 A4390 ((t3669.2.1).length) n4392 t3669.2.1, r6 A4394 ((t3669.2.2).length) n4396 t3669.2.2, r18 A3142 ((t3137.2.1).length) n3144 t3137.2.1, r6 A3146 ((t3137.2.2).length) n3148 t3137.2.2, r18 A3117 ((t3112.2.1).length) n3119 t3112.2.1, r6 (some ⟨g3461, 0, none⟩) y3463.length n3123 y3463, b20 g3125 A3117 ((t3112.2.1).length) n3119 (some ⟨g3461, 0, none⟩) y3463.length n3123, b20 g3150 A3142 ((t3137.2.1).length) n3144 A3146 ((t3137.2.2).length) n3148, b20 g4398 A4390 ((t3669.2.1).length) n4392 A4394 ((t3669.2.2).length) n4396, b20 g4422 A4414 ((t3694.2.1).length) n4416 A4418 ((t3694.2.2).length) n4420] w4450) := ⟨HS.out.call hS⟩
                            clear hS
                            by_cases c4451 : t4377 = true
                            · replace H := if_yes c4451 H
                              have c4451b0 : t4377 = true := c4451
                              have c4451b1 : (!t4377) = false := by rw [c4451b0]; rfl
                              clear c4451
                              have hc4452 : w4450.cell? ⟨g4422, 1, none⟩ = some (.slice A4418 ((t3694.2.2).length) n4420) := blk_cellv (HS.out.nth 11 rfl) 1 rfl
                              have hc4453 : w4450.cell? ⟨g3150, 1, none⟩ = some (.slice A3146 ((t3137.2.2).length) n3148) := blk_cellv (HS.out.nth 9 rfl) 1 rfl
                              go_wp2_with fail
                              clear hc4452 hc4453
                              obtain ⟨t4383, HA4454, H⟩ := bind_some H
                              refine (quitrentref01_Same.calls _ t3694.2.2 t3137.2.2 A4418 n4420 A3146 n3148 t4383 _ ⟨Rd.ownI (l := []) HS.out 1 rfl⟩ ⟨Rd.ownI (l := []) HS.out 5 rfl⟩ ⟨HGl0.out.pass (l := []) HS.out⟩ ⟨Sep.start _⟩ HA4454).mono ?_
                              rintro e_ w4455 ⟨rfl, hS⟩
                              replace HS : Aside0 (Sep (fps []) w [r18 A4414 ((t3694.2.1).length) n4416 t3694.2.1, r6 A4418 ((t3694.2.2).length) n4420 t3694.2.2, r18 A4390 ((t3669.2.1).length) n4392 t3669.2.1, r6 A4394 ((t3669.2.2).length) n4396 t3669.2.2, r18 A3142 ((t3137.2.1).length) n3144 t3137.2.1, r6 A3146 ((t3137.2.2).length) n3148 t3137.2.2, r18 A3117 ((t3112.2.1).length) n3119 t3112.2.1, r6 (some ⟨g3461, 0, none⟩) y3463.length n3123 y3463, b20 g3125 A3117 ((t3112.2.1).length) n3119 (some ⟨g3461, 0, none⟩) y3463.length n3123, b20 g3150 A3142 ((t3137.2.1).length) n3144 A3146 ((t3137.2.2).length) n3148, b20 g4398 A4390 ((t3669.2.1).length) n4392 A4394 ((t3669.2.2).length) n4396, b20 g4422 A4414 ((t3694.2.1).length) n4416 A4418 ((t3694.2.2).length) n4420] w4455) := ⟨HS.out.call hS⟩
                              clear hS
                              replace HS : Aside0 (Sep (fps []) w [] w4455) := ⟨HS.out.sub (.cons _ (.cons _ (.cons _ (.cons _ (.cons _ (.cons _ (.cons _ (.cons _ (.cons _ (.cons _ (.cons _ (.cons _ .slnil))))))))))))⟩
                              go_wp2_with fail
                              go_ret
                              rw [← some_eq H]
                              exact ⟨(by first | rfl | (simp [IntKind.wrap_u32]; done)), HS.out⟩
                            · replace H := if_no c4451 H
                              have c4451b0 : t4377 = false := by simpa using c4451
                              have c4451b1 : (!t4377) = true := by rw [c4451b0]; rfl
                              clear c4451
                              replace HS : Aside0 (Sep (fps []) w [] w4450) := ⟨HS.out.sub (.cons _ (.cons _ (.cons _ (.cons _ (.cons _ (.cons _ (.cons _ (.cons _ (.cons _ (.cons _ (.cons _ (.cons _ .slnil))))))))))))⟩
                              go_wp2_with fail
                              go_ret
                              rw [← some_eq H]
                              exact ⟨(by first | rfl | (simp [IntKind.wrap_u32]; done)), HS.out⟩
                          · replace H := if_no c4446 H
                            have c4446b0 : t4371 = false := by simpa using c4446
                            have c4446b1 : (!t4371) = true := by rw [c4446b0]; rfl
                            clear c4446
                            replace HS : Aside0 (Sep (fps []) w [] w4445) := ⟨HS.out.sub (.cons _ (.cons _ (.cons _ (.cons _ (.cons _ (.cons _ (.cons _ (.cons _ (.cons _ (.cons _ (.cons _ (.cons _ .slnil))))))))))))⟩
                            go_wp2_with fail
                            go_ret
                            rw [← some_eq H]
                            exact ⟨(by first | rfl | (simp [IntKind.wrap_u32]; done)), HS.out⟩
                        · replace H := if_no c4441 H
                          have c4441b0 : t4326 = false := by simpa using c4441
                          have c4441b1 : (!t4326) = true := by rw [c4441b0]; rfl
                          clear c4441
                          replace HS : Aside0 (Sep (fps []) w [] w4440) := ⟨HS.out.sub (.cons _ (.cons _ (.cons _ (.cons _ (.cons _ (.cons _ (.cons _ (.cons _ (.cons _ (.cons _ (.cons _ (.cons _ .slnil))))))))))))⟩
                          go_wp2_with fail
                          go_ret
                          rw [← some_eq H]
                          exact ⟨(by first | rfl | (simp [IntKind.wrap_u32]; done)), HS.out⟩
                      · replace H := if_no c4436 H
                        have c4436b0 : t4320 = false := by simpa using c4436
                        have c4436b1 : (!t4320) = true := by rw [c4436b0]; rfl
                        clear c4436
                        replace HS : Aside0 (Sep (fps []) w [] w4435) := ⟨HS.out.sub (.cons _ (.cons _ (.cons _ (.cons _ (.cons _ (.cons _ (.cons _ (.cons _ (.cons _ (.cons _ (.cons _ (.cons _ .slnil))))))))))))⟩
                        go_wp2_with fail
                        go_ret
                        rw [← some_eq H]
                        exact ⟨(by first | rfl | (simp [IntKind.wrap_u32]; done)), HS.out⟩
                  · replace H := if_no c3522 H
                    have c3522b0 : (t3518.2.1 == 0) = false := beq_eq_false_iff_ne.mpr c3522
                    have c3522b1 : (t3518.2.1 != 0) = true := bne_iff_ne.mpr c3522
                    clear c3522
                    replace HS : Aside0 (Sep (fps []) w [] w3520) := ⟨HS.out.sub (.cons _ (.cons _ (.cons _ (.cons _ (.cons _ (.cons _ (.cons _ (.cons _ (.cons _ .slnil)))))))))⟩
                    go_wp2_with fail
                    go_ret
                    rw [← some_eq H]
                    exact ⟨(by first | rfl | (simp [IntKind.wrap_u32]; done)), HS.out⟩
                · replace H := if_no c3521 H
                  have c3521b0 : (t3518.1 == a7) = false := beq_eq_false_iff_ne.mpr c3521
                  have c3521b1 : (t3518.1 != a7) = true := bne_iff_ne.mpr c3521
                  clear c3521
                  replace HS : Aside0 (Sep (fps []) w [] w3520) := ⟨HS.out.sub (.cons _ (.cons _ (.cons _ (.cons _ (.cons _ (.cons _ (.cons _ (.cons _ (.cons _ .slnil)))))))))⟩
                  go_wp2_with fail
                  go_ret
                  rw [← some_eq H]
                  exact ⟨(by first | rfl | (simp [IntKind.wrap_u32]; done)), HS.out⟩
              · replace H := if_no c3460 H
                have c3460b0 : decide (a5 < ((t3112.2.2).length : Int)) = false := decide_eq_false c3460
                clear c3460
                exact (none_no H).elim
            · replace H := if_no c3459 H
              have c3459b0 : decide (0 ≤ a5) = false := decide_eq_false c3459
              clear c3459
              exact (none_no H).elim
          · replace H := if_no c3457 H
            have c3457b0 : (t3454.1 == 0) = false := beq_eq_false_iff_ne.mpr c3457
            have c3457b1 : (t3454.1 != 0) = true := bne_iff_ne.mpr c3457
            clear c3457
            go_wp2_with fail
            obtain ⟨t3600, HA4456, H⟩ := bind_some H
            refine (obj_SetPtr.calls _ t3454.2.2 t3454.2.1 t1611.2.1 t1611.2.2.1 t1611.2.2.2.1 t1611.2.2.2.2.1 t2557.1 a6 t2552.1 g1620 g1621 A1622 ((t1611.2.2.2.2.2.2).length) n1624 t3600 _ ⟨HGl0.out.pass HS.out⟩ ⟨HS.out.begin⟩ HA4456).mono ?_
            rintro e_ w4457 ⟨rfl, hS⟩
            replace HS : Aside0 (Sep (fps []) w [b8 g1620 g1621 t1611.2.1 t1611.2.2.1 t1611.2.2.2.1 t1611.2.2.2.2.1, b7 g1621 A1622 ((t1611.2.2.2.2.2.2).length) n1624 t3600.2.1, r6 A1622 ((t1611.2.2.2.2.2.2).length) n1624 t3600.2.2, r18 A3142 ((t3137.2.1).length) n3144 t3137.2.1, r6 A3146 ((t3137.2.2).length) n3148 t3137.2.2, r18 A3117 ((t3112.2.1).length) n3119 t3112.2.1, r6 A3121 ((t3112.2.2).length) n3123 t3112.2.2, b20 g3125 A3117 ((t3112.2.1).length) n3119 A3121 ((t3112.2.2).length) n3123, b20 g3150 A3142 ((t3137.2.1).length) n3144 A3146 ((t3137.2.2).length) n3148] w4457) := ⟨HS.out.call hS⟩
            clear hS
            by_cases c4458 : t3600.1 = 0
            · replace H := if_yes c4458 H
              have c4458b0 : (t3600.1 == 0) = true := beq_iff_eq.mpr c4458
              have c4458b1 : (t3600.1 != 0) = false := bne_eq_false_iff_eq.mpr c4458
              clear c4458
              by_cases c4460 : 0 ≤ a6
              · replace H := if_yes c4460 H
                have c4460b0 : decide (0 ≤ a6) = true := decide_eq_true c4460
                have c4460p : (0 ≤ a6) = True := eq_true c4460
                clear c4460
                by_cases c4461 : a6 < ((t3137.2.1).length : Int)
                · replace H := if_yes c4461 H
                  have c4461b0 : decide (a6 < ((t3137.2.1).length : Int)) = true := decide_eq_true c4461
                  have c4461p : (a6 < ((t3137.2.1).length : Int)) = True := eq_true c4461
                  clear c4461
                  obtain ⟨y3609, HA4464, H⟩ := bind_some H
                  have hc4459 : w4457.cell? ⟨g3150, 0, none⟩ = some (.slice A3142 ((t3137.2.1).length) n3144) := blk_cellv (HS.out.at8) 0 rfl
                  obtain ⟨g4462, ea⟩ := row_at (HS.out.at3) (by have := (of_decide_eq_true c4460b0); have := (of_decide_eq_true c4461b0); omega); cases ea
                  have hx4465 := (row_get 0 (HS.out.at3) a6 (of_decide_eq_true c4460b0) (of_decide_eq_true c4461b0)).1
                  have hz4466 := (row_get 0 (HS.out.at3) a6 (of_decide_eq_true c4460b0) (of_decide_eq_true c4461b0)).2
                  go_wp2_with (first | ((with_reducible refine gate_store (t := 3) (p := 108) rfl ?_); refine store_event (w1 := World.setCell w4457 ⟨g4462, (a6).toNat, none⟩ (.int .i64 t2552.1)) rfl (t := 3) (p := 108) rfl rfl ?hr ?_; (case hr => first | (go_simp; done) | (go_simp; rfl)); intro w4463 hst; clear hc4459 hx4465 hz4466; have hq := Sep.rowset (l1 := [b8 g1620 g1621 t1611.2.1 t1611.2.2.1 t1611.2.2.2.1 t1611.2.2.2.2.1, b7 g1621 A1622 ((t1611.2.2.2.2.2.2).length) n1624 t3600.2.1, r6 A1622 ((t1611.2.2.2.2.2.2).length) n1624 t3600.2.2]) (l2 := [r6 A3146 ((t3137.2.2).length) n3148 t3137.2.2, r18 A3117 ((t3112.2.1).length) n3119 t3112.2.1, r6 A3121 ((t3112.2.2).length) n3123 t3112.2.2, b20 g3125 A3117 ((t3112.2.1).length) n3119 A3121 ((t3112.2.2).length) n3123, b20 g3150 (some ⟨g4462, 0, none⟩) ((t3137.2.1).length) n3144 A3146 ((t3137.2.2).length) n3148]) HS.out a6 t2552.1; rw [← hst, some_eq HA4464] at hq; replace HS : Aside0 (Sep (fps []) w [b8 g1620 g1621 t1611.2.1 t1611.2.2.1 t1611.2.2.2.1 t1611.2.2.2.2.1, b7 g1621 A1622 ((t1611.2.2.2.2.2.2).length) n1624 t3600.2.1, r6 A1622 ((t1611.2.2.2.2.2.2).length) n1624 t3600.2.2, r18 (some ⟨g4462, 0, none⟩) ((t3137.2.1).length) n3144 y3609, r6 A3146 ((t3137.2.2).length) n3148 t3137.2.2, r18 A3117 ((t3112.2.1).length) n3119 t3112.2.1, r6 A3121 ((t3112.2.2).length) n3123 t3112.2.2, b20 g3125 A3117 ((t3112.2.1).length) n3119 A3121 ((t3112.2.2).length) n3123, b20 g3150 (some ⟨g4462, 0, none⟩) ((t3137.2.1).length) n3144 A3146 ((t3137.2.2).length) n3148] w4463) := ⟨hq⟩; clear hst hq))
                  obtain ⟨t3664, HA4467, H⟩ := bind_some H
                  refine (obj_Ptr.calls _ t3600.2.2 t3600.2.1 t1611.2.1 t1611.2.2.1 t1611.2.2.2.1 t1611.2.2.2.2.1 t2557.1 a6 g1620 g1621 A1622 ((t1611.2.2.2.2.2.2).length) n1624 t3664 _ ⟨HGl0.out.pass HS.out⟩ ⟨HS.out.begin⟩ HA4467).mono ?_
                  rintro e_ w4468 ⟨rfl, hS⟩
                  replace HS : Aside0 (Sep (fps []) w [b8 g1620 g1621 t1611.2.1 t1611.2.2.1 t1611.2.2.2.1 t1611.2.2.2.2.1, b7 g1621 A1622 ((t1611.2.2.2.2.2.2).length) n1624 t3664.2.2, r6 A1622 ((t1611.2.2.2.2.2.2).length) n1624 t3600.2.2, r18 (some ⟨g4462, 0, none⟩) ((t3137.2.1).length) n3144 y3609, r6 A3146 ((t3137.2.2).length) n3148 t3137.2.2, r18 A3117 ((t3112.2.1).length) n3119 t3112.2.1, r6 A3121 ((t3112.2.2).length) n3123 t3112.2.2, b20 g3125 A3117 ((t3112.2.1).length) n3119 A3121 ((t3112.2.2).length) n3123, b20 g3150 (some ⟨g4462, 0, none⟩) ((t3137.2.1).length) n3144 A3146 ((t3137.2.2).length) n3148] w4468) := ⟨HS.out.call hS⟩
                  clear hS
                  by_cases c4469 : t3664.1 = t2552.1
                  · replace H := if_yes c4469 H
                    have c4469b0 : (t3664.1 == t2552.1) = true := beq_iff_eq.mpr c4469
                    have c4469b1 : (t3664.1 != t2552.1) = false := bne_eq_false_iff_eq.mpr c4469
                    clear c4469
                    by_cases c4470 : t3664.2.1 = 0
                    · replace H := if_yes c4470 H
                      have c4470b0 : (t3664.2.1 == 0) = true := beq_iff_eq.mpr c4470
                      have c4470b1 : (t3664.2.1 != 0) = false := bne_eq_false_iff_eq.mpr c4470
                      clear c4470
                      go_wp2_with fail
                      obtain ⟨t3669, HA4471, H⟩ := bind_some H
                      refine (obj_See.calls _ t3600.2.2 t3664.2.2 t1611.2.1 t1611.2.2.1 t1611.2.2.2.1 t1611.2.2.2.2.1 t2552.1 g1620 g1621 A1622 ((t1611.2.2.2.2.2.2).length) n1624 t3669 _ ⟨HGl0.out.pass HS.out⟩ ⟨HS.out.begin⟩ HA4471).mono ?_
                      rintro e_ w4472 ⟨A4475, m4476, n4477, A4479, m4480, n4481, rfl, hS⟩
                      replace HS : Aside0 (Sep (fps []) w [b8 g1620 g1621 t1611.2.1 t1611.2.2.1 t1611.2.2.2.1 t1611.2.2.2.2.1, b7 g1621 A1622 ((t1611.2.2.2.2.2.2).length) n1624 t3664.2.2, r6 A1622 ((t1611.2.2.2.2.2.2).length) n1624 t3600.2.2, r18 A4475 m4476 n4477 t3669.2.1, r6 A4479 m4480 n4481 t3669.2.2, r18 (some ⟨g4462, 0, none⟩) ((t3137.2.1).length) n3144 y3609, r6 A3146 ((t3137.2.2).length) n3148 t3137.2.2, r18 A3117 ((t3112.2.1).length) n3119 t3112.2.1, r6 A3121 ((t3112.2.2).length) n3123 t3112.2.2, b20 g3125 A3117 ((t3112.2.1).length) n3119 A3121 ((t3112.2.2).length) n3123, b20 g3150 (some ⟨g4462, 0, none⟩) ((t3137.2.1).length) n3144 A3146 ((t3137.2.2).length) n3148] w4472) := ⟨HS.out.call hS⟩
                      clear hS
                      obtain rfl := (row_len (HS.out.at3)).symm
                      obtain rfl := (row_len (HS.out.at4)).symm
                      go_wp2_with (first | ((with_reducible refine gate_dst (N := 25) rfl ?_); refine box_on ?hg (N := 25) ?hd (cs := #[.slice none 0 0, .slice none 0 0]) (t := 71) ?hr ?_; (case hd => rfl); (case hg => rfl); (case hr => first | (go_simp; done) | (go_simp; rfl)); intro g4483 hg w4484 hbox hb; replace HS : Aside0 (Sep (fps []) w [b8 g1620 g1621 t1611.2.1 t1611.2.2.1 t1611.2.2.2.1 t1611.2.2.2.2.1, b7 g1621 A1622 ((t1611.2.2.2.2.2.2).length) n1624 t3664.2.2, r6 A1622 ((t1611.2.2.2.2.2.2).length) n1624 t3600.2.2, r18 A4475 ((t3669.2.1).length) n4477 t3669.2.1, r6 A4479 ((t3669.2.2).length) n4481 t3669.2.2, r18 (some ⟨g4462, 0, none⟩) ((t3137.2.1).length) n3144 y3609, r6 A3146 ((t3137.2.2).length) n3148 t3137.2.2, r18 A3117 ((t3112.2.1).length) n3119 t3112.2.1, r6 A3121 ((t3112.2.2).length) n3123 t3112.2.2, b20 g3125 A3117 ((t3112.2.1).length) n3119 A3121 ((t3112.2.2).length) n3123, b20 g3150 (some ⟨g4462, 0, none⟩) ((t3137.2.1).length) n3144 A3146 ((t3137.2.2).length) n3148, b17 g4483] w4484) := ⟨HS.out.box hg hbox hb⟩; clear hg hbox hb; replace HS : Aside0 (Sep (fps []) w [r18 none 0 0 [], b8 g1620 g1621 t1611.2.1 t1611.2.2.1 t1611.2.2.2.1 t1611.2.2.2.2.1, b7 g1621 A1622 ((t1611.2.2.2.2.2.2).length) n1624 t3664.2.2, r6 A1622 ((t1611.2.2.2.2.2.2).length) n1624 t3600.2.2, r18 A4475 ((t3669.2.1).length) n4477 t3669.2.1, r6 A4479 ((t3669.2.2).length) n4481 t3669.2.2, r18 (some ⟨g4462, 0, none⟩) ((t3137.2.1).length) n3144 y3609, r6 A3146 ((t3137.2.2).length) n3148 t3137.2.2, r18 A3117 ((t3112.2.1).length) n3119 t3112.2.1, r6 A3121 ((t3112.2.2).length) n3123 t3112.2.2, b20 g3125 A3117 ((t3112.2.1).length) n3119 A3121 ((t3112.2.2).length) n3123, b20 g3150 (some ⟨g4462, 0, none⟩) ((t3137.2.1).length) n3144 A3146 ((t3137.2.2).length) n3148, b19 g4483 none 0 0] w4484) := ⟨HS.out.nilrow 3 (Value.int .i64)⟩; replace HS : Aside0 (Sep (fps []) w [r6 none 0 0 [], r18 none 0 0 [], b8 g1620 g1621 t1611.2.1 t1611.2.2.1 t1611.2.2.2.1 t1611.2.2.2.2.1, b7 g1621 A1622 ((t1611.2.2.2.2.2.2).length) n1624 t3664.2.2, r6 A1622 ((t1611.2.2.2.2.2.2).length) n1624 t3600.2.2, r18 A4475 ((t3669.2.1).length) n4477 t3669.2.1, r6 A4479 ((t3669.2.2).length) n4481 t3669.2.2, r18 (some ⟨g4462, 0, none⟩) ((t3137.2.1).length) n3144 y3609, r6 A3146 ((t3137.2.2).length) n3148 t3137.2.2, r18 A3117 ((t3112.2.1).length) n3119 t3112.2.1, r6 A3121 ((t3112.2.2).length) n3123 t3112.2.2, b20 g3125 A3117 ((t3112.2.1).length) n3119 A3121 ((t3112.2.2).length) n3123, b20 g3150 (some ⟨g4462, 0, none⟩) ((t3137.2.1).length) n3144 A3146 ((t3137.2.2).length) n3148, b20 g4483 none 0 0 none 0 0] w4484) := ⟨HS.out.nilrow 33 (Value.int .u32)⟩; have hc4490 : w4484.cell? ⟨g4483, 0, none⟩ = some (.slice none 0 0) := blk_cellv (HS.out.nth 13 rfl) 0 rfl; have hz4491 : w4484.frozen? ⟨g4483, 0, none⟩ = false := blk_fz (HS.out.nth 13 rfl) 0; have hc4492 : w4484.cell? ⟨g4483, 1, none⟩ = some (.slice none 0 0) := blk_cellv (HS.out.nth 13 rfl) 1 rfl; have hz4493 : w4484.frozen? ⟨g4483, 1, none⟩ = false := blk_fz (HS.out.nth 13 rfl) 1) | ((with_reducible refine gate_store (t := 71) (p := 25) rfl ?_); refine store_event (w1 := (World.setCell (World.setCell w4484 ⟨g4483, 0, none⟩ (.slice A4475 ((t3669.2.1).length) n4477)) ⟨g4483, 1, none⟩ (.slice A4479 ((t3669.2.2).length) n4481))) rfl (t := 71) (p := 25) rfl rfl ?hr ?_; (case hr => first | (go_simp; done) | (go_simp; rfl)); intro w4494 hst; clear hc4490 hz4491 hc4492 hz4493; have hq0 : Sep (fps []) w [r6 none 0 0 [], r18 none 0 0 [], b8 g1620 g1621 t1611.2.1 t1611.2.2.1 t1611.2.2.2.1 t1611.2.2.2.2.1, b7 g1621 A1622 ((t1611.2.2.2.2.2.2).length) n1624 t3664.2.2, r6 A1622 ((t1611.2.2.2.2.2.2).length) n1624 t3600.2.2, r18 A4475 ((t3669.2.1).length) n4477 t3669.2.1, r6 A4479 ((t3669.2.2).length) n4481 t3669.2.2, r18 (some ⟨g4462, 0, none⟩) ((t3137.2.1).length) n3144 y3609, r6 A3146 ((t3137.2.2).length) n3148 t3137.2.2, r18 A3117 ((t3112.2.1).length) n3119 t3112.2.1, r6 A3121 ((t3112.2.2).length) n3123 t3112.2.2, b20 g3125 A3117 ((t3112.2.1).length) n3119 A3121 ((t3112.2.2).length) n3123, b20 g3150 (some ⟨g4462, 0, none⟩) ((t3137.2.1).length) n3144 A3146 ((t3137.2.2).length) n3148, b20 g4483 A4475 ((t3669.2.1).length) n4477 none 0 0] (World.setCell w4484 ⟨g4483, 0, none⟩ (.slice A4475 ((t3669.2.1).length) n4477)) := (HS.out).set1 (l1 := [r6 none 0 0 [], r18 none 0 0 [], b8 g1620 g1621 t1611.2.1 t1611.2.2.1 t1611.2.2.2.1 t1611.2.2.2.2.1, b7 g1621 A1622 ((t1611.2.2.2.2.2.2).length) n1624 t3664.2.2, r6 A1622 ((t1611.2.2.2.2.2.2).length) n1624 t3600.2.2, r18 A4475 ((t3669.2.1).length) n4477 t3669.2.1, r6 A4479 ((t3669.2.2).length) n4481 t3669.2.2, r18 (some ⟨g4462, 0, none⟩) ((t3137.2.1).length) n3144 y3609, r6 A3146 ((t3137.2.2).length) n3148 t3137.2.2, r18 A3117 ((t3112.2.1).length) n3119 t3112.2.1, r6 A3121 ((t3112.2.2).length) n3123 t3112.2.2, b20 g3125 A3117 ((t3112.2.1).length) n3119 A3121 ((t3112.2.2).length) n3123, b20 g3150 (some ⟨g4462, 0, none⟩) ((t3137.2.1).length) n3144 A3146 ((t3137.2.2).length) n3148]) (l2 := []) 0 (.slice A4475 ((t3669.2.1).length) n4477); have hq1 : Sep (fps []) w [r6 none 0 0 [], r18 none 0 0 [], b8 g1620 g1621 t1611.2.1 t1611.2.2.1 t1611.2.2.2.1 t1611.2.2.2.2.1, b7 g1621 A1622 ((t1611.2.2.2.2.2.2).length) n1624 t3664.2.2, r6 A1622 ((t1611.2.2.2.2.2.2).length) n1624 t3600.2.2, r18 A4475 ((t3669.2.1).length) n4477 t3669.2.1, r6 A4479 ((t3669.2.2).length) n4481 t3669.2.2, r18 (some ⟨g4462, 0, none⟩) ((t3137.2.1).length) n3144 y3609, r6 A3146 ((t3137.2.2).length) n3148 t3137.2.2, r18 A3117 ((t3112.2.1).length) n3119 t3112.2.1, r6 A3121 ((t3112.2.2).length) n3123 t3112.2.2, b20 g3125 A3117 ((t3112.2.1).length) n3119 A3121 ((t3112.2.2).length) n3123, b20 g3150 (some ⟨g4462, 0, none⟩) ((t3137.2.1).length) n3144 A3146 ((t3137.2.2).length) n3148, b20 g4483 A4475 ((t3669.2.1).length) n4477 A4479 ((t3669.2.2).length) n4481] (World.setCell (World.setCell w4484 ⟨g4483, 0, none⟩ (.slice A4475 ((t3669.2.1).length) n4477)) ⟨g4483, 1, none⟩ (.slice A4479 ((t3669.2.2).length) n4481)) := (hq0).set1 (l1 := [r6 none 0 0 [], r18 none 0 0 [], b8 g1620 g1621 t1611.2.1 t1611.2.2.1 t1611.2.2.2.1 t1611.2.2.2.2.1, b7 g1621 A1622 ((t1611.2.2.2.2.2.2).length) n1624 t3664.2.2, r6 A1622 ((t1611.2.2.2.2.2.2).length) n1624 t3600.2.2, r18 A4475 ((t3669.2.1).length) n4477 t3669.2.1, r6 A4479 ((t3669.2.2).length) n4481 t3669.2.2, r18 (some ⟨g4462, 0, none⟩) ((t3137.2.1).length) n3144 y3609, r6 A3146 ((t3137.2.2).length) n3148 t3137.2.2, r18 A3117 ((t3112.2.1).length) n3119 t3112.2.1, r6 A3121 ((t3112.2.2).length) n3123 t3112.2.2, b20 g3125 A3117 ((t3112.2.1).length) n3119 A3121 ((t3112.2.2).length) n3123, b20 g3150 (some ⟨g4462, 0, none⟩) ((t3137.2.1).length) n3144 A3146 ((t3137.2.2).length) n3148]) (l2 := []) 1 (.slice A4479 ((t3669.2.2).length) n4481); replace HS : Aside0 (Sep (fps []) w [r6 none 0 0 [], r18 none 0 0 [], b8 g1620 g1621 t1611.2.1 t1611.2.2.1 t1611.2.2.2.1 t1611.2.2.2.2.1, b7 g1621 A1622 ((t1611.2.2.2.2.2.2).length) n1624 t3664.2.2, r6 A1622 ((t1611.2.2.2.2.2.2).length) n1624 t3600.2.2, r18 A4475 ((t3669.2.1).length) n4477 t3669.2.1, r6 A4479 ((t3669.2.2).length) n4481 t3669.2.2, r18 (some ⟨g4462, 0, none⟩) ((t3137.2.1).length) n3144 y3609, r6 A3146 ((t3137.2.2).length) n3148 t3137.2.2, r18 A3117 ((t3112.2.1).length) n3119 t3112.2.1, r6 A3121 ((t3112.2.2).length) n3123 t3112.2.2, b20 g3125 A3117 ((t3112.2.1).length) n3119 A3121 ((t3112.2.2).length) n3123, b20 g3150 (some ⟨g4462, 0, none⟩) ((t3137.2.1).length) n3144 A3146 ((t3137.2.2).length) n3148, b20 g4483 A4475 ((t3669.2.1).length) n4477 A4479 ((t3669.2.2).length) n4481] w4494) := ⟨by rw [hst]; exact hq1⟩; clear hq0 hq1; clear hst; replace HS : Aside0 (Sep (fps []) w [b8 g1620 g1621 t1611.2.1 t1611.2.2.1 t1611.2.2.2.1 t1611.2.2.2.2.1, b7 g1621 A1622 ((t1611.2.2.2.2.2.2).length) n1624 t3664.2.2, r6 A1622 ((t1611.2.2.2.2.2.2).length) n1624 t3600.2.2, r18 A4475 ((t3669.2.1).length) n4477 t3669.2.1, r6 A4479 ((t3669.2.2).length) n4481 t3669.2.2, r18 (some ⟨g4462, 0, none⟩) ((t3137.2.1).length) n3144 y3609, r6 A3146 ((t3137.2.2).length) n3148 t3137.2.2, r18 A3117 ((t3112.2.1).length) n3119 t3112.2.1, r6 A3121 ((t3112.2.2).length) n3123 t3112.2.2, b20 g3125 A3117 ((t3112.2.1).length) n3119 A3121 ((t3112.2.2).length) n3123, b20 g3150 (some ⟨g4462, 0, none⟩) ((t3137.2.1).length) n3144 A3146 ((t3137.2.2).length) n3148, b20 g4483 A4475 ((t3669.2.1).length) n4477 A4479 ((t3669.2.2).length) n4481] w4494) := ⟨HS.out.sub (.cons _ (.cons _ (.cons_cons _ (.cons_cons _ (.cons_cons _ (.cons_cons _ (.cons_cons _ (.cons_cons _ (.cons_cons _ (.cons_cons _ (.cons_cons _ (.cons_cons _ (.cons_cons _ (.cons_cons _ .slnil))))))))))))))⟩))
                      obtain ⟨t3694, HA4495, H⟩ := bind_some H
                      refine (obj_See.calls _ t3600.2.2 t3664.2.2 t1611.2.1 t1611.2.2.1 t1611.2.2.2.1 t1611.2.2.2.2.1 t2557.1 g1620 g1621 A1622 ((t1611.2.2.2.2.2.2).length) n1624 t3694 _ ⟨HGl0.out.pass HS.out⟩ ⟨HS.out.begin⟩ HA4495).mono ?_
                      rintro e_ w4496 ⟨A4499, m4500, n4501, A4503, m4504, n4505, rfl, hS⟩
                      replace HS : Aside0 (Sep (fps []) w [b8 g1620 g1621 t1611.2.1 t1611.2.2.1 t1611.2.2.2.1 t1611.2.2.2.2.1, b7 g1621 A1622 ((t1611.2.2.2.2.2.2).length) n1624 t3664.2.2, r6 A1622 ((t1611.2.2.2.2.2.2).length) n1624 t3600.2.2, r18 A4499 m4500 n4501 t3694.2.1, r6 A4503 m4504 n4505 t3694.2.2, r18 A4475 ((t3669.2.1).length) n4477 t3669.2.1, r6 A4479 ((t3669.2.2).length) n4481 t3669.2.2, r18 (some ⟨g4462, 0, none⟩) ((t3137.2.1).length) n3144 y3609, r6 A3146 ((t3137.2.2).length) n3148 t3137.2.2, r18 A3117 ((t3112.2.1).length) n3119 t3112.2.1, r6 A3121 ((t3112.2.2).length) n3123 t3112.2.2, b20 g3125 A3117 ((t3112.2.1).length) n3119 A3121 ((t3112.2.2).length) n3123, b20 g3150 (some ⟨g4462, 0, none⟩) ((t3137.2.1).length) n3144 A3146 ((t3137.2.2).length) n3148, b20 g4483 A4475 ((t3669.2.1).length) n4477 A4479 ((t3669.2.2).length) n4481] w4496) := ⟨HS.out.call hS⟩
                      clear hS
                      obtain rfl := (row_len (HS.out.at3)).symm
                      obtain rfl := (row_len (HS.out.at4)).symm
                      go_wp2_with (first | ((with_reducible refine gate_dst (N := 27) rfl ?_); refine box_on ?hg (N := 27) ?hd (cs := #[.slice none 0 0, .slice none 0 0]) (t := 71) ?hr ?_; (case hd => rfl); (case hg => rfl); (case hr => first | (go_simp; done) | (go_simp; rfl)); intro g4507 hg w4508 hbox hb; replace HS : Aside0 (Sep (fps []) w [b8 g1620 g1621 t1611.2.1 t1611.2.2.1 t1611.2.2.2.1 t1611.2.2.2.2.1, b7 g1621 A1622 ((t1611.2.2.2.2.2.2).length) n1624 t3664.2.2, r6 A1622 ((t1611.2.2.2.2.2.2).length) n1624 t3600.2.2, r18 A4499 ((t3694.2.1).length) n4501 t3694.2.1, r6 A4503 ((t3694.2.2).length) n4505 t3694.2.2, r18 A4475 ((t3669.2.1).length) n4477 t3669.2.1, r6 A4479 ((t3669.2.2).length) n4481 t3669.2.2, r18 (some ⟨g4462, 0, none⟩) ((t3137.2.1).length) n3144 y3609, r6 A3146 ((t3137.2.2).length) n3148 t3137.2.2, r18 A3117 ((t3112.2.1).length) n3119 t3112.2.1, r6 A3121 ((t3112.2.2).length) n3123 t3112.2.2, b20 g3125 A3117 ((t3112.2.1).length) n3119 A3121 ((t3112.2.2).length) n3123, b20 g3150 (some ⟨g4462, 0, none⟩) ((t3137.2.1).length) n3144 A3146 ((t3137.2.2).length) n3148, b20 g4483 A4475 ((t3669.2.1).length) n4477 A4479 ((t3669.2.2).length) n4481, b17 g4507] w4508) := ⟨HS.out.box hg hbox hb⟩; clear hg hbox hb; replace HS : Aside0 (Sep (fps []) w [r18 none 0 0 [], b8 g1620 g1621 t1611.2.1 t1611.2.2.1 t1611.2.2.2.1 t1611.2.2.2.2.1, b7 g1621 A1622 ((t1611.2.2.2.2.2.2).length) n1624 t3664.2.2, r6 A1622 ((t1611.2.2.2.2.2.2).length) n1624 t3600.2.2, r18 A4499 ((t3694.2.1).length) n4501 t3694.2.1, r6 A4503 ((t3694.2.2).length) n4505 t3694.2.2, r18 A4475 ((t3669.2.1).length) n4477 t3669.2.1, r6 A4479 ((t3669.2.2).length) n4481 t3669.2.2, r18 (some ⟨g4462, 0, none⟩) ((t3137.2.1).length) n3144 y3609, r6 A3146 ((t3137.2.2).length) n3148 t3137.2.2, r18 A3117 ((t3112.2.1).length) n3119 t3112.2.1, r6 A3121 ((t3112.2.2).length) n3123 t3112.2.2, b20 g3125 A3117 ((t3112.2.1).length) n3119 A3121 ((t3112.2.2).length) n3123, b20 g3150 (some ⟨g4462, 0, none⟩) ((t3137.2.1).length) n3144 A3146 ((t3137.2.2).length) n3148, b20 g4483 A4475 ((t3669.2.1).length) n4477 A4479 ((t3669.2.2).length) n4481, b19 g4507 none 0 0] w4508) := ⟨HS.out.nilrow 3 (Value.int .i64)⟩; replace HS : Aside0 (Sep (fps []) w [r6 none 0 0 [], r18 none 0 0 [], b8 g1620 g1621 t1611.2.1 t1611.2.2.1 t1611.2.2.2.1 t1611.2.2.2.2.1, b7 g1621 A1622 ((t1611.2.2.2.2.2.2).length) n1624 t3664.2.2, r6 A1622 ((t1611.2.2.2.2.2.2).length) n1624 t3600.2.2, r18 A4499 ((t3694.2.1).length) n4501 t3694.2.1, r6 A4503 ((t3694.2.2).length) n4505 t3694.2.2, r18 A4475 ((t3669.2.1).length) n4477 t3669.2.1, r6 A4479 ((t3669.2.2).length) n4481 t3669.2.2, r18 (some ⟨g4462, 0, none⟩) ((t3137.2.1).length) n3144 y3609, r6 A3146 ((t3137.2.2).length) n3148 t3137.2.2, r18 A3117 ((t3112.2.1).length) n3119 t3112.2.1, r6 A3121 ((t3112.2.2).length) n3123 t3112.2.2, b20 g3125 A3117 ((t3112.2.1).length) n3119 A3121 ((t3112.2.2).length) n3123, b20 g3150 (some ⟨g4462, 0, none⟩) ((t3137.2.1).length) n3144 A3146 ((t3137.2.2).length) n3148, b20 g4483 A4475 ((t3669.2.1).length) n4477 A4479 ((t3669.2.2).length) n4481, b20 g4507 none 0 0 none 0 0] w4508) := ⟨HS.out.nilrow 33 (Value.int .u32)⟩; have hc4514 : w4508.cell? ⟨g4507, 0, none⟩ = some (.slice none 0 0) := blk_cellv (HS.out.nth 16 rfl) 0 rfl; have hz4515 : w4508.frozen? ⟨g4507, 0, none⟩ = false := blk_fz (HS.out.nth 16 rfl) 0; have hc4516 : w4508.cell? ⟨g4507, 1, none⟩ = some (.slice none 0 0) := blk_cellv (HS.out.nth 16 rfl) 1 rfl; have hz4517 : w4508.frozen? ⟨g4507, 1, none⟩ = false := blk_fz (HS.out.nth 16 rfl) 1) | ((with_reducible refine gate_store (t := 71) (p := 27) rfl ?_); refine store_event (w1 := (World.setCell (World.setCell w4508 ⟨g4507, 0, none⟩ (.slice A4499 ((t3694.2.1).length) n4501)) ⟨g4507, 1, none⟩ (.slice A4503 ((t3694.2.2).length) n4505))) rfl (t := 71) (p := 27) rfl rfl ?hr ?_; (case hr => first | (go_simp; done) | (go_simp; rfl)); intro w4518 hst; clear hc4514 hz4515 hc4516 hz4517; have hq0 : Sep (fps []) w [r6 none 0 0 [], r18 none 0 0 [], b8 g1620 g1621 t1611.2.1 t1611.2.2.1 t1611.2.2.2.1 t1611.2.2.2.2.1, b7 g1621 A1622 ((t1611.2.2.2.2.2.2).length) n1624 t3664.2.2, r6 A1622 ((t1611.2.2.2.2.2.2).length) n1624 t3600.2.2, r18 A4499 ((t3694.2.1).length) n4501 t3694.2.1, r6 A4503 ((t3694.2.2).length) n4505 t3694.2.2, r18 A4475 ((t3669.2.1).length) n4477 t3669.2.1, r6 A4479 ((t3669.2.2).length) n4481 t3669.2.2, r18 (some ⟨g4462, 0, none⟩) ((t3137.2.1).length) n3144 y3609, r6 A3146 ((t3137.2.2).length) n3148 t3137.2.2, r18 A3117 ((t3112.2.1).length) n3119 t3112.2.1, r6 A3121 ((t3112.2.2).length) n3123 t3112.2.2, b20 g3125 A3117 ((t3112.2.1).length) n3119 A3121 ((t3112.2.2).length) n3123, b20 g3150 (some ⟨g4462, 0, none⟩) ((t3137.2.1).length) n3144 A3146 ((t3137.2.2).length) n3148, b20 g4483 A4475 ((t3669.2.1).length) n4477 A4479 ((t3669.2.2).length) n4481, b20 g4507 A4499 ((t3694.2.1).length) n4501 none 0 0] (World.setCell w4508 ⟨g4507, 0, none⟩ (.slice A4499 ((t3694.2.1).length) n4501)) := (HS.out).set1 (l1 := [r6 none 0 0 [], r18 none 0 0 [], b8 g1620 g1621 t1611.2.1 t1611.2.2.1 t1611.2.2.2.1 t1611.2.2.2.2.1, b7 g1621 A1622 ((t1611.2.2.2.2.2.2).length) n1624 t3664.2.2, r6 A1622 ((t1611.2.2.2.2.2.2).length) n1624 t3600.2.2, r18 A4499 ((t3694.2.1).length) n4501 t3694.2.1, r6 A4503 ((t3694.2.2).length) n4505 t3694.2.2, r18 A4475 ((t3669.2.1).length) n4477 t3669.2.1, r6 A4479 ((t3669.2.2).length) n4481 t3669.2.2, r18 (some ⟨g4462, 0, none⟩) ((t3137.2.1).length) n3144 y3609, r6 A3146 ((t3137.2.2).length) n3148 t3137.2.2, r18 A3117 ((t3112.2.1).length) n3119 t3112.2.1, r6 A3121 ((t3112.2.2).length) n3123 t3112.2.2, b20 g3125 A3117 ((t3112.2.1).length) n3119 A3121 ((t3112.2.2).length) n3123, b20 g3150 (some ⟨g4462, 0, none⟩) ((t3137.2.1).length) n3144 A3146 ((t3137.2.2).length) n3148, b20 g4483 A4475 ((t3669.2.1).length) n4477 A4479 ((t3669.2.2).length) n4481]) (l2 := []) 0 (.slice A4499 ((t3694.2.1).length) n4501); have hq1 : Sep (fps []) w [r6 none 0 0 [], r18 none 0 0 [], b8 g1620 g1621 t1611.2.1 t1611.2.2.1 t1611.2.2.2.1 t1611.2.2.2.2.1, b7 g1621 A1622 ((t1611.2.2.2.2.2.2).length) n1624 t3664.2.2, r6 A1622 ((t1611.2.2.2.2.2.2).length) n1624 t3600.2.2, r18 A4499 ((t3694.2.1).length) n4501 t3694.2.1, r6 A4503 ((t3694.2.2).length) n4505 t3694.2.2, r18 A4475 ((t3669.2.1).length) n4477 t3669.2.1, r6 A4479 ((t3669.2.2).length) n4481 t3669.2.2, r18 (some ⟨g4462, 0, none⟩) ((t3137.2.1).length) n3144 y3609, r6 A3146 ((t3137.2.2).length) n3148 t3137.2.2, r18 A3117 ((t3112.2.1).length) n3119 t3112.2.1, r6 A3121 ((t3112.2.2).length) n3123 t3112.2.2, b20 g3125 A3117 ((t3112.2.1).length) n3119 A3121 ((t3112.2.2).length) n3123, b20 g3150 (some ⟨g4462, 0, none⟩) ((t3137.2.1).length) n3144 A3146 ((t3137.2.2).length) n3148, b20 g4483 A4475 ((t3669.2.1).length) n4477 A4479 ((t3669.2.2).length) n4481, b20 g4507 A4499 ((t3694.2.1).length) n4501 A4503 ((t3694.2.2).length) n4505] (World.setCell (World.setCell w4508 ⟨g4507, 0, none⟩ (.slice A4499 ((t3694.2.1).length) n4501)) ⟨g4507, 1, none⟩ (.slice A4503 ((t3694.2.2).length) n4505)) := (hq0).set1 (l1 := [r6 none 0 0 [], r18 none 0 0 [], b8 g1620 g1621 t1611.2.1 t1611.2.2.1 t1611.2.2.2.1 t1611.2.2.2.2.1, b7 g1621 A1622 ((t1611.2.2.2.2.2.2).length) n1624 t3664.2.2, r6 A1622 ((t1611.2.2.2.2.2.2).length) n1624 t3600.2.2, r18 A4499 ((t3694.2.1).length) n4501 t3694.2.1, r6 A4503 ((t3694.2.2).length) n4505 t3694.2.2, r18 A4475 ((t3669.2.1).length) n4477 t3669.2.1, r6 A4479 ((t3669.2.2).length) n4481 t3669.2.2, r18 (some ⟨g4462, 0, none⟩) ((t3137.2.1).length) n3144 y3609, r6 A3146 ((t3137.2.2).length) n3148 t3137.2.2, r18 A3117 ((t3112.2.1).length) n3119 t3112.2.1, r6 A3121 ((t3112.2.2).length) n3123 t3112.2.2, b20 g3125 A3117 ((t3112.2.1).length) n3119 A3121 ((t3112.2.2).length) n3123, b20 g3150 (some ⟨g4462, 0, none⟩) ((t3137.2.1).length) n3144 A3146 ((t3137.2.2).length) n3148, b20 g4483 A4475 ((t3669.2.1).length) n4477 A4479 ((t3669.2.2).length) n4481]) (l2 := []) 1 (.slice A4503 ((t3694.2.2).length) n4505); replace HS : Aside0 (Sep (fps []) w [r6 none 0 0 [], r18 none 0 0 [], b8 g1620 g1621 t1611.2.1 t1611.2.2.1 t1611.2.2.2.1 t1611.2.2.2.2.1, b7 g1621 A1622 ((t1611.2.2.2.2.2.2).length) n1624 t3664.2.2, r6 A1622 ((t1611.2.2.2.2.2.2).length) n1624 t3600.2.2, r18 A4499 ((t3694.2.1).length) n4501 t3694.2.1, r6 A4503 ((t3694.2.2).length) n4505 t3694.2.2, r18 A4475 ((t3669.2.1).length) n4477 t3669.2.1, r6 A4479 ((t3669.2.2).length) n4481 t3669.2.2, r18 (some ⟨g4462, 0, none⟩) ((t3137.2.1).length) n3144 y3609, r6 A3146 ((t3137.2.2).length) n3148 t3137.2.2, r18 A3117 ((t3112.2.1).length) n3119 t3112.2.1, r6 A3121 ((t3112.2.2).length) n3123 t3112.2.2, b20 g3125 A3117 ((t3112.2.1).length) n3119 A3121 ((t3112.2.2).length) n3123, b20 g3150 (some ⟨g4462, 0, none⟩) ((t3137.2.1).length) n3144 A3146 ((t3137.2.2).length) n3148, b20 g4483 A4475 ((t3669.2.1).length) n4477 A4479 ((t3669.2.2).length) n4481, b20 g4507 A4499 ((t3694.2.1).length) n4501 A4503 ((t3694.2.2).length) n4505] w4518) := ⟨by rw [hst]; exact hq1⟩; clear hq0 hq1; clear hst; replace HS : Aside0 (Sep (fps []) w [r18 A4499 ((t3694.2.1).length) n4501 t3694.2.1, r6 A4503 ((t3694.2.2).length) n4505 t3694.2.2, r18 A4475 ((t3669.2.1).length) n4477 t3669.2.1, r6 A4479 ((t3669.2.2).length) n4481 t3669.2.2, r18 (some ⟨g4462, 0, none⟩) ((t3137.2.1).length) n3144 y3609, r6 A3146 ((t3137.2.2).length) n3148 t3137.2.2, r18 A3117 ((t3112.2.1).length) n3119 t3112.2.1, r6 A3121 ((t3112.2.2).length) n3123 t3112.2.2, b20 g3125 A3117 ((t3112.2.1).length) n3119 A3121 ((t3112.2.2).length) n3123, b20 g3150 (some ⟨g4462, 0, none⟩) ((t3137.2.1).length) n3144 A3146 ((t3137.2.2).length) n3148, b20 g4483 A4475 ((t3669.2.1).length) n4477 A4479 ((t3669.2.2).length) n4481, b20 g4507 A4499 ((t3694.2.1).length) n4501 A4503 ((t3694.2.2).length) n4505] w4518) := ⟨HS.out.sub (.cons _ (.cons _ (.cons _ (.cons _ (.cons _ (.cons_cons _ (.cons_cons _ (.cons_cons _ (.cons_cons _ (.cons_cons _ (.cons_cons _ (.cons_cons _ (.cons_cons _ (.cons_cons _ (.cons_cons _ (.cons_cons _ (.cons_cons _ .slnil)))))))))))))))))⟩))
                      obtain ⟨t4320, HA4519, H⟩ := bind_some H
                      refine (quitrentlaw11_begun.calls _ t4320 _ ⟨HGl0.out.pass (l := []) HS.out⟩ ⟨Sep.start _⟩ HA4519).mono ?_
                      rintro e_ w4520 ⟨rfl, hS⟩
                      replace HS : Aside0 (Sep (fps []) w [r18 A4499 ((t3694.2.1).length) n4501 t3694.2.1, r6 A4503 ((t3694.2.2).length) n4505 t3694.2.2, r18 A4475 ((t3669.2.1).length) n4477 t3669.2.1, r6 A4479 ((t3669.2.2).length) n4481 t3669.2.2, r18 (some ⟨g4462, 0, none⟩) ((t3137.2.1).length) n3144 y3609, r6 A3146 ((t3137.2.2).length) n3148 t3137.2.2, r18 A3117 ((t3112.2.1).length) n3119 t3112.2.1, r6 A3121 ((t3112.2.2).length) n3123 t3112.2.2, b20 g3125 A3117 ((t3112.2.1).length) n3119 A3121 ((t3112.2.2).length) n3123, b20 g3150 (some ⟨g4462, 0, none⟩) ((t3137.2.1).length) n3144 A3146 ((t3137.2.2).length) n3148, b20 g4483 A4475 ((t3669.2.1).length) n4477 A4479 ((t3669.2.2).length) n4481, b20 g4507 A4499 ((t3694.2.1).length) n4501 A4503 ((t3694.2.2).length) n4505] w4520) := ⟨HS.out.call hS⟩
                      clear hS
                      by_cases c4521 : t4320 = true
                      · replace H := if_yes c4521 H
                        have c4521b0 : t4320 = true := c4521
                        have c4521b1 : (!t4320) = false := by rw [c4521b0]; rfl
                        clear c4521
                        have hc4522 : w4520.cell? ⟨g4483, 0, none⟩ = some (.slice A4475 ((t3669.2.1).length) n4477) := blk_cellv (HS.out.nth 10 rfl) 0 rfl
                        have hc4523 : w4520.cell? ⟨g3125, 0, none⟩ = some (.slice A3117 ((t3112.2.1).length) n3119) := blk_cellv (HS.out.at8) 0 rfl
                        go_wp2_with fail
                        clear hc4522 hc4523
                        obtain ⟨t4326, HA4524, H⟩ := bind_some H
                        refine (quitrentref01_Ints.calls _ t3669.2.1 t3112.2.1 A4475 n4477 A3117 n3119 t4326 _ ⟨Rd.ownI (l := []) HS.out 2 rfl⟩ ⟨Rd.ownI (l := []) HS.out 6 rfl⟩ ⟨HGl0.out.pass (l := []) HS.out⟩ ⟨Sep.start _⟩ HA4524).mono ?_
                        rintro e_ w4525 ⟨rfl, hS⟩
                        replace HS : Aside0 (Sep (fps []) w [r18 A4499 ((t3694.2.1).length) n4501 t3694.2.1, r6 A4503 ((t3694.2.2).length) n4505 t3694.2.2, r18 A4475 ((t3669.2.1).length) n4477 t3669.2.1, r6 A4479 ((t3669.2.2).length) n4481 t3669.2.2, r18 (some ⟨g4462, 0, none⟩) ((t3137.2.1).length) n3144 y3609, r6 A3146 ((t3137.2.2).length) n3148 t3137.2.2, r18 A3117 ((t3112.2.1).length) n3119 t3112.2.1, r6 A3121 ((t3112.2.2).length) n3123 t3112.2.2, b20 g3125 A3117 ((t3112.2.1).length) n3119 A3121 ((t3112.2.2).length) n3123, b20 g3150 (some ⟨g4462, 0, none⟩) ((t3137.2.1).length) n3144 A3146 ((t3137.2.2).length) n3148, b20 g4483 A4475 ((t3669.2.1).length) n4477 A4479 ((t3669.2.2).length) n4481, b20 g4507 A4499 ((t3694.2.1).length) n4501 A4503 ((t3694.2.2).length) n4505] w4525) := ⟨HS.out.call hS⟩
                        clear hS
                        by_cases c4526 : t4326 = true
                        · replace H := if_yes c4526 H
                          have c4526b0 : t4326 = true := c4526
                          have c4526b1 : (!t4326) = false := by rw [c4526b0]; rfl
                          clear c4526
                          have hc4527 : w4525.cell? ⟨g4483, 1, none⟩ = some (.slice A4479 ((t3669.2.2).length) n4481) := blk_cellv (HS.out.nth 10 rfl) 1 rfl
                          have hc4528 : w4525.cell? ⟨g3125, 1, none⟩ = some (.slice A3121 ((t3112.2.2).length) n3123) := blk_cellv (HS.out.at8) 1 rfl
                          go_wp2_with fail
                          clear hc4527 hc4528
                          obtain ⟨t4371, HA4529, H⟩ := bind_some H
                          refine (quitrentref01_Same.calls _ t3669.2.2 t3112.2.2 A4479 n4481 A3121 n3123 t4371 _ ⟨Rd.ownI (l := []) HS.out 3 rfl⟩ ⟨Rd.ownI (l := []) HS.out 7 rfl⟩ ⟨HGl0.out.pass (l := []) HS.out⟩ ⟨Sep.start _⟩ HA4529).mono ?_
                          rintro e_ w4530 ⟨rfl, hS⟩
                          replace HS : Aside0 (Sep (fps []) w [r18 A4499 ((t3694.2.1).length) n4501 t3694.2.1, r6 A4503 ((t3694.2.2).length) n4505 t3694.2.2, r18 A4475 ((t3669.2.1).length) n4477 t3669.2.1, r6 A4479 ((t3669.2.2).length) n4481 t3669.2.2, r18 (some ⟨g4462, 0, none⟩) ((t3137.2.1).length) n3144 y3609, r6 A3146 ((t3137.2.2).length) n3148 t3137.2.2, r18 A3117 ((t3112.2.1).length) n3119 t3112.2.1, r6 A3121 ((t3112.2.2).length) n3123 t3112.2.2, b20 g3125 A3117 ((t3112.2.1).length) n3119 A3121 ((t3112.2.2).length) n3123, b20 g3150 (some ⟨g4462, 0, none⟩) ((t3137.2.1).length) n3144 A3146 ((t3137.2.2).length) n3148, b20 g4483 A4475 ((t3669.2.1).length) n4477 A4479 ((t3669.2.2).length) n4481, b20 g4507 A4499 ((t3694.2.1).length) n4501 A4503 ((t3694.2.2).length) n4505] w4530) := ⟨HS.out.call hS⟩
                          clear hS
                          by_cases c4531 : t4371 = true
                          · replace H := if_yes c4531 H
                            have c4531b0 : t4371 = true := c4531
                            have c4531b1 : (!t4371) = false := by rw [c4531b0]; rfl
                            clear c4531
                            have hc4532 : w4530.cell? ⟨g4507, 0, none⟩ = some (.slice A4499 ((t3694.2.1).length) n4501) := blk_cellv (HS.out.nth 11 rfl) 0 rfl
                            have hc4533 : w4530.cell? ⟨g3150, 0, none⟩ = some (.slice (some ⟨g4462, 0, none⟩) ((t3137.2.1).length) n3144) := blk_cellv (HS.out.nth 9 rfl) 0 rfl
                            go_wp2_with fail
                            clear hc4532 hc4533
                            have hl_ := row_len (HS.out.at4)
                            rw [← hl_] at HS ⊢
                            clear hl_
                            obtain ⟨t4377, HA4534, H⟩ := bind_some H
                            refine (quitrentref01_Ints.calls _ t3694.2.1 y3609 A4499 n4501 (some ⟨g4462, 0, none⟩) n3144 t4377 _ ⟨Rd.ownI (l := []) HS.out 0 rfl⟩ ⟨Rd.ownI (l := []) HS.out 4 rfl⟩ ⟨HGl0.out.pass (l := []) HS.out⟩ ⟨Sep.start _⟩ HA4534).mono ?_
                            rintro e_ w4535 ⟨rfl, hS⟩
                            replace HS : Aside0 (Sep (fps []) w [r18 A4499 ((t3694.2.1).length) n4501 t3694.2.1, r6 A4503 ((t3694.2.2).length) n4505 t3694.2.2, r18 A4475 ((t3669.2.1).length) n4477 t3669.2.1, r6 A4479 ((t3669.2.2).length) n4481 t3669.2.2, r18 (some ⟨g4462, 0, none⟩) y3609.length n3144 y3609, r6 A3146 ((t3137.2.2).length) n3148 t3137.2.2, r18 A3117 ((t3112.2.1).length) n3119 t3112.2.1, r6 A3121 ((t3112.2.2).length) n3123 t3112.2.2, b20 g3125 A3117 ((t3112.2.1).length) n3119 A3121 ((t3112.2.2).length) n3123, b20 g3150 (some ⟨g4462, 0, none⟩) y3609.length n3144 A3146 ((t3137.2.2).length) n3148, b20 g4483 A4475 ((t3669.2.1).length) n4477 A4479 ((t3669.2.2).length) n4481, b20 g4507 A4499 ((t3694.2.1).length) n4501 A4503 ((t3694.2.2).length) n4505] w4535) := ⟨HS.out.call hS⟩
                            clear hS
                            by_cases c4536 : t4377 = true
                            · replace H := if_yes c4536 H
                              have c4536b0 : t4377 = true := c4536
                              have c4536b1 : (!t4377) = false := by rw [c4536b0]; rfl
                              clear c4536
                              have hc4537 : w4535.cell? ⟨g4507, 1, none⟩ = some (.slice A4503 ((t3694.2.2).length) n4505) := blk_cellv (HS.out.nth 11 rfl) 1 rfl
                              have hc4538 : w4535.cell? ⟨g3150, 1, none⟩ = some (.slice A3146 ((t3137.2.2).length) n3148) := blk_cellv (HS.out.nth 9 rfl) 1 rfl
                              go_wp2_with fail
                              clear hc4537 hc4538
                              obtain ⟨t4383, HA4539, H⟩ := bind_some H
                              refine (quitrentref01_Same.calls _ t3694.2.2 t3137.2.2 A4503 n4505 A3146 n3148 t4383 _ ⟨Rd.ownI (l := []) HS.out 1 rfl⟩ ⟨Rd.ownI (l := []) HS.out 5 rfl⟩ ⟨HGl0.out.pass (l := []) HS.out⟩ ⟨Sep.start _⟩ HA4539).mono ?_
                              rintro e_ w4540 ⟨rfl, hS⟩
                              replace HS : Aside0 (Sep (fps []) w [r18 A4499 ((t3694.2.1).length) n4501 t3694.2.1, r6 A4503 ((t3694.2.2).length) n4505 t3694.2.2, r18 A4475 ((t3669.2.1).length) n4477 t3669.2.1, r6 A4479 ((t3669.2.2).length) n4481 t3669.2.2, r18 (some ⟨g4462, 0, none⟩) y3609.length n3144 y3609, r6 A3146 ((t3137.2.2).length) n3148 t3137.2.2, r18 A3117 ((t3112.2.1).length) n3119 t3112.2.1, r6 A3121 ((t3112.2.2).length) n3123 t3112.2.2, b20 g3125 A3117 ((t3112.2.1).length) n3119 A3121 ((t3112.2.2).length) n3123, b20 g3150 (some ⟨g4462, 0, none⟩) y3609.length n3144 A3146 ((t3137.2.2).length) n3148, b20 g4483 A4475 ((t3669.2.1).length) n4477 A4479 ((t3669.2.2).length) n4481, b20 g4507 A4499 ((t3694.2.1).length) n4501 A4503 ((t3694.2.2).length) n4505] w4540) := ⟨HS.out.call hS⟩
                              clear hS
                              replace HS : Aside0 (Sep (fps []) w [] w4540) := ⟨HS.out.sub (.cons _ (.cons _ (.cons _ (.cons _ (.cons _ (.cons _ (.cons _ (.cons _ (.cons _ (.cons _ (.cons _ (.cons _ .slnil))))))))))))⟩
                              go_wp2_with fail
                              go_ret
                              rw [← some_eq H]
                              exact ⟨(by first | rfl | (simp [IntKind.wrap_u32]; done)), HS.out⟩
                            · replace H := if_no c4536 H
                              have c4536b0 : t4377 = false := by simpa using c4536
                              have c4536b1 : (!t4377) = true := by rw [c4536b0]; rfl
                              clear c4536
                              replace HS : Aside0 (Sep (fps []) w [] w4535) := ⟨HS.out.sub (.cons _ (.cons _ (.cons _ (.cons _ (.cons _ (.cons _ (.cons _ (.cons _ (.cons _ (.cons _ (.cons _ (.cons _ .slnil))))))))))))⟩
                              go_wp2_with fail
                              go_ret
                              rw [← some_eq H]
                              exact ⟨(by first | rfl | (simp [IntKind.wrap_u32]; done)), HS.out⟩
                          · replace H := if_no c4531 H
                            have c4531b0 : t4371 = false := by simpa using c4531
                            have c4531b1 : (!t4371) = true := by rw [c4531b0]; rfl
                            clear c4531
                            replace HS : Aside0 (Sep (fps []) w [] w4530) := ⟨HS.out.sub (.cons _ (.cons _ (.cons _ (.cons _ (.cons _ (.cons _ (.cons _ (.cons _ (.cons _ (.cons _ (.cons _ (.cons _ .slnil))))))))))))⟩
                            go_wp2_with fail
                            go_ret
                            rw [← some_eq H]
                            exact ⟨(by first | rfl | (simp [IntKind.wrap_u32]; done)), HS.out⟩
                        · replace H := if_no c4526 H
                          have c4526b0 : t4326 = false := by simpa using c4526
                          have c4526b1 : (!t4326) = true := by rw [c4526b0]; rfl
                          clear c4526
                          replace HS : Aside0 (Sep (fps []) w [] w4525) := ⟨HS.out.sub (.cons _ (.cons _ (.cons _ (.cons _ (.cons _ (.cons _ (.cons _ (.cons _ (.cons _ (.cons _ (.cons _ (.cons _ .slnil))))))))))))⟩
                          go_wp2_with fail
                          go_ret
                          rw [← some_eq H]
                          exact ⟨(by first | rfl | (simp [IntKind.wrap_u32]; done)), HS.out⟩
                      · replace H := if_no c4521 H
                        have c4521b0 : t4320 = false := by simpa using c4521
                        have c4521b1 : (!t4320) = true := by rw [c4521b0]; rfl
                        clear c4521
                        replace HS : Aside0 (Sep (fps []) w [] w4520) := ⟨HS.out.sub (.cons _ (.cons _ (.cons _ (.cons _ (.cons _ (.cons _ (.cons _ (.cons _ (.cons _ (.cons _ (.cons _ (.cons _ .slnil))))))))))))⟩
                        go_wp2_with fail
                        go_ret
                        rw [← some_eq H]
                        exact ⟨(by first | rfl | (simp [IntKind.wrap_u32]; done)), HS.out⟩
                    · replace H := if_no c4470 H
                      have c4470b0 : (t3664.2.1 == 0) = false := beq_eq_false_iff_ne.mpr c4470
                      have c4470b1 : (t3664.2.1 != 0) = true := bne_iff_ne.mpr c4470
                      clear c4470
                      replace HS : Aside0 (Sep (fps []) w [] w4468) := ⟨HS.out.sub (.cons _ (.cons _ (.cons _ (.cons _ (.cons _ (.cons _ (.cons _ (.cons _ (.cons _ .slnil)))))))))⟩
                      go_wp2_with fail
                      go_ret
                      rw [← some_eq H]
                      exact ⟨(by first | rfl | (simp [IntKind.wrap_u32]; done)), HS.out⟩
                  · replace H := if_no c4469 H
                    have c4469b0 : (t3664.1 == t2552.1) = false := beq_eq_false_iff_ne.mpr c4469
                    have c4469b1 : (t3664.1 != t2552.1) = true := bne_iff_ne.mpr c4469
                    clear c4469
                    replace HS : Aside0 (Sep (fps []) w [] w4468) := ⟨HS.out.sub (.cons _ (.cons _ (.cons _ (.cons _ (.cons _ (.cons _ (.cons _ (.cons _ (.cons _ .slnil)))))))))⟩
                    go_wp2_with fail
                    go_ret
                    rw [← some_eq H]
                    exact ⟨(by first | rfl | (simp [IntKind.wrap_u32]; done)), HS.out⟩
                · replace H := if_no c4461 H
                  have c4461b0 : decide (a6 < ((t3137.2.1).length : Int)) = false := decide_eq_false c4461
                  clear c4461
                  exact (none_no H).elim
              · replace H := if_no c4460 H
                have c4460b0 : decide (0 ≤ a6) = false := decide_eq_false c4460
                clear c4460
                exact (none_no H).elim
            · replace H := if_no c4458 H
              have c4458b0 : (t3600.1 == 0) = false := beq_eq_false_iff_ne.mpr c4458
              have c4458b1 : (t3600.1 != 0) = true := bne_iff_ne.mpr c4458
              clear c4458
              go_wp2_with fail
              obtain ⟨t3669, HA4541, H⟩ := bind_some H
              refine (obj_See.calls _ t3600.2.2 t3600.2.1 t1611.2.1 t1611.2.2.1 t1611.2.2.2.1 t1611.2.2.2.2.1 t2552.1 g1620 g1621 A1622 ((t1611.2.2.2.2.2.2).length) n1624 t3669 _ ⟨HGl0.out.pass HS.out⟩ ⟨HS.out.begin⟩ HA4541).mono ?_
              rintro e_ w4542 ⟨A4545, m4546, n4547, A4549, m4550, n4551, rfl, hS⟩
              replace HS : Aside0 (Sep (fps []) w [b8 g1620 g1621 t1611.2.1 t1611.2.2.1 t1611.2.2.2.1 t1611.2.2.2.2.1, b7 g1621 A1622 ((t1611.2.2.2.2.2.2).length) n1624 t3600.2.1, r6 A1622 ((t1611.2.2.2.2.2.2).length) n1624 t3600.2.2, r18 A4545 m4546 n4547 t3669.2.1, r6 A4549 m4550 n4551 t3669.2.2, r18 A3142 ((t3137.2.1).length) n3144 t3137.2.1, r6 A3146 ((t3137.2.2).length) n3148 t3137.2.2, r18 A3117 ((t3112.2.1).length) n3119 t3112.2.1, r6 A3121 ((t3112.2.2).length) n3123 t3112.2.2, b20 g3125 A3117 ((t3112.2.1).length) n3119 A3121 ((t3112.2.2).length) n3123, b20 g3150 A3142 ((t3137.2.1).length) n3144 A3146 ((t3137.2.2).length) n3148] w4542) := ⟨HS.out.call hS⟩
              clear hS
              obtain rfl := (row_len (HS.out.at3)).symm
              obtain rfl := (row_len (HS.out.at4)).symm
              go_wp2_with (first | ((with_reducible refine gate_dst (N := 25) rfl ?_); refine box_on ?hg (N := 25) ?hd (cs := #[.slice none 0 0, .slice none 0 0]) (t := 71) ?hr ?_; (case hd => rfl); (case hg => rfl); (case hr => first | (go_simp; done) | (go_simp; rfl)); intro g4553 hg w4554 hbox hb; replace HS : Aside0 (Sep (fps []) w [b8 g1620 g1621 t1611.2.1 t1611.2.2.1 t1611.2.2.2.1 t1611.2.2.2.2.1, b7 g1621 A1622 ((t1611.2.2.2.2.2.2).length) n1624 t3600.2.1, r6 A1622 ((t1611.2.2.2.2.2.2).length) n1624 t3600.2.2, r18 A4545 ((t3669.2.1).length) n4547 t3669.2.1, r6 A4549 ((t3669.2.2).length) n4551 t3669.2.2, r18 A3142 ((t3137.2.1).length) n3144 t3137.2.1, r6 A3146 ((t3137.2.2).length) n3148 t3137.2.2, r18 A3117 ((t3112.2.1).length) n3119 t3112.2.1, r6 A3121 ((t3112.2.2).length) n3123 t3112.2.2, b20 g3125 A3117 ((t3112.2.1).length) n3119 A3121 ((t3112.2.2).length) n3123, b20 g3150 A3142 ((t3137.2.1).length) n3144 A3146 ((t3137.2.2).length) n3148, b17 g4553] w4554) := ⟨HS.out.box hg hbox hb⟩; clear hg hbox hb; replace HS : Aside0 (Sep (fps []) w [r18 none 0 0 [], b8 g1620 g1621 t1611.2.1 t1611.2.2.1 t1611.2.2.2.1 t1611.2.2.2.2.1, b7 g1621 A1622 ((t1611.2.2.2.2.2.2).length) n1624 t3600.2.1, r6 A1622 ((t1611.2.2.2.2.2.2).length) n1624 t3600.2.2, r18 A4545 ((t3669.2.1).length) n4547 t3669.2.1, r6 A4549 ((t3669.2.2).length) n4551 t3669.2.2, r18 A3142 ((t3137.2.1).length) n3144 t3137.2.1, r6 A3146 ((t3137.2.2).length) n3148 t3137.2.2, r18 A3117 ((t3112.2.1).length) n3119 t3112.2.1, r6 A3121 ((t3112.2.2).length) n3123 t3112.2.2, b20 g3125 A3117 ((t3112.2.1).length) n3119 A3121 ((t3112.2.2).length) n3123, b20 g3150 A3142 ((t3137.2.1).length) n3144 A3146 ((t3137.2.2).length) n3148, b19 g4553 none 0 0] w4554) := ⟨HS.out.nilrow 3 (Value.int .i64)⟩; replace HS : Aside0 (Sep (fps []) w [r6 none 0 0 [], r18 none 0 0 [], b8 g1620 g1621 t1611.2.1 t1611.2.2.1 t1611.2.2.2.1 t1611.2.2.2.2.1, b7 g1621 A1622 ((t1611.2.2.2.2.2.2).length) n1624 t3600.2.1, r6 A1622 ((t1611.2.2.2.2.2.2).length) n1624 t3600.2.2, r18 A4545 ((t3669.2.1).length) n4547 t3669.2.1, r6 A4549 ((t3669.2.2).length) n4551 t3669.2.2, r18 A3142 ((t3137.2.1).length) n3144 t3137.2.1, r6 A3146 ((t3137.2.2).length) n3148 t3137.2.2, r18 A3117 ((t3112.2.1).length) n3119 t3112.2.1, r6 A3121 ((t3112.2.2).length) n3123 t3112.2.2, b20 g3125 A3117 ((t3112.2.1).length) n3119 A3121 ((t3112.2.2).length) n3123, b20 g3150 A3142 ((t3137.2.1).length) n3144 A3146 ((t3137.2.2).length) n3148, b20 g4553 none 0 0 none 0 0] w4554) := ⟨HS.out.nilrow 33 (Value.int .u32)⟩; have hc4560 : w4554.cell? ⟨g4553, 0, none⟩ = some (.slice none 0 0) := blk_cellv (HS.out.nth 13 rfl) 0 rfl; have hz4561 : w4554.frozen? ⟨g4553, 0, none⟩ = false := blk_fz (HS.out.nth 13 rfl) 0; have hc4562 : w4554.cell? ⟨g4553, 1, none⟩ = some (.slice none 0 0) := blk_cellv (HS.out.nth 13 rfl) 1 rfl; have hz4563 : w4554.frozen? ⟨g4553, 1, none⟩ = false := blk_fz (HS.out.nth 13 rfl) 1) | ((with_reducible refine gate_store (t := 71) (p := 25) rfl ?_); refine store_event (w1 := (World.setCell (World.setCell w4554 ⟨g4553, 0, none⟩ (.slice A4545 ((t3669.2.1).length) n4547)) ⟨g4553, 1, none⟩ (.slice A4549 ((t3669.2.2).length) n4551))) rfl (t := 71) (p := 25) rfl rfl ?hr ?_; (case hr => first | (go_simp; done) | (go_simp; rfl)); intro w4564 hst; clear hc4560 hz4561 hc4562 hz4563; have hq0 : Sep (fps []) w [r6 none 0 0 [], r18 none 0 0 [], b8 g1620 g1621 t1611.2.1 t1611.2.2.1 t1611.2.2.2.1 t1611.2.2.2.2.1, b7 g1621 A1622 ((t1611.2.2.2.2.2.2).length) n1624 t3600.2.1, r6 A1622 ((t1611.2.2.2.2.2.2).length) n1624 t3600.2.2, r18 A4545 ((t3669.2.1).length) n4547 t3669.2.1, r6 A4549 ((t3669.2.2).length) n4551 t3669.2.2, r18 A3142 ((t3137.2.1).length) n3144 t3137.2.1, r6 A3146 ((t3137.2.2).length) n3148 t3137.2.2, r18 A3117 ((t3112.2.1).length) n3119 t3112.2.1, r6 A3121 ((t3112.2.2).length) n3123 t3112.2.2, b20 g3125 A3117 ((t3112.2.1).length) n3119 A3121 ((t3112.2.2).length) n3123, b20 g3150 A3142 ((t3137.2.1).length) n3144 A3146 ((t3137.2.2).length) n3148, b20 g4553 A4545 ((t3669.2.1).length) n4547 none 0 0] (World.setCell w4554 ⟨g4553, 0, none⟩ (.slice A4545 ((t3669.2.1).length) n4547)) := (HS.out).set1 (l1 := [r6 none 0 0 [], r18 none 0 0 [], b8 g1620 g1621 t1611.2.1 t1611.2.2.1 t1611.2.2.2.1 t1611.2.2.2.2.1, b7 g1621 A1622 ((t1611.2.2.2.2.2.2).length) n1624 t3600.2.1, r6 A1622 ((t1611.2.2.2.2.2.2).length) n1624 t3600.2.2, r18 A4545 ((t3669.2.1).length) n4547 t3669.2.1, r6 A4549 ((t3669.2.2).length) n4551 t3669.2.2, r18 A3142 ((t3137.2.1).length) n3144 t3137.2.1, r6 A3146 ((t3137.2.2).length) n3148 t3137.2.2, r18 A3117 ((t3112.2.1).length) n3119 t3112.2.1, r6 A3121 ((t3112.2.2).length) n3123 t3112.2.2, b20 g3125 A3117 ((t3112.2.1).length) n3119 A3121 ((t3112.2.2).length) n3123, b20 g3150 A3142 ((t3137.2.1).length) n3144 A3146 ((t3137.2.2).length) n3148]) (l2 := []) 0 (.slice A4545 ((t3669.2.1).length) n4547); have hq1 : Sep (fps []) w [r6 none 0 0 [], r18 none 0 0 [], b8 g1620 g1621 t1611.2.1 t1611.2.2.1 t1611.2.2.2.1 t1611.2.2.2.2.1, b7 g1621 A1622 ((t1611.2.2.2.2.2.2).length) n1624 t3600.2.1, r6 A1622 ((t1611.2.2.2.2.2.2).length) n1624 t3600.2.2, r18 A4545 ((t3669.2.1).length) n4547 t3669.2.1, r6 A4549 ((t3669.2.2).length) n4551 t3669.2.2, r18 A3142 ((t3137.2.1).length) n3144 t3137.2.1, r6 A3146 ((t3137.2.2).length) n3148 t3137.2.2, r18 A3117 ((t3112.2.1).length) n3119 t3112.2.1, r6 A3121 ((t3112.2.2).length) n3123 t3112.2.2, b20 g3125 A3117 ((t3112.2.1).length) n3119 A3121 ((t3112.2.2).length) n3123, b20 g3150 A3142 ((t3137.2.1).length) n3144 A3146 ((t3137.2.2).length) n3148, b20 g4553 A4545 ((t3669.2.1).length) n4547 A4549 ((t3669.2.2).length) n4551] (World.setCell (World.setCell w4554 ⟨g4553, 0, none⟩ (.slice A4545 ((t3669.2.1).length) n4547)) ⟨g4553, 1, none⟩ (.slice A4549 ((t3669.2.2).length) n4551)) := (hq0).set1 (l1 := [r6 none 0 0 [], r18 none 0 0 [], b8 g1620 g1621 t1611.2.1 t1611.2.2.1 t1611.2.2.2.1 t1611.2.2.2.2.1, b7 g1621 A1622 ((t1611.2.2.2.2.2.2).length) n1624 t3600.2.1, r6 A1622 ((t1611.2.2.2.2.2.2).length) n1624 t3600.2.2, r18 A4545 ((t3669.2.1).length) n4547 t3669.2.1, r6 A4549 ((t3669.2.2).length) n4551 t3669.2.2, r18 A3142 ((t3137.2.1).length) n3144 t3137.2.1, r6 A3146 ((t3137.2.2).length) n3148 t3137.2.2, r18 A3117 ((t3112.2.1).length) n3119 t3112.2.1, r6 A3121 ((t3112.2.2).length) n3123 t3112.2.2, b20 g3125 A3117 ((t3112.2.1).length) n3119 A3121 ((t3112.2.2).length) n3123, b20 g3150 A3142 ((t3137.2.1).length) n3144 A3146 ((t3137.2.2).length) n3148]) (l2 := []) 1 (.slice A4549 ((t3669.2.2).length) n4551); replace HS : Aside0 (Sep (fps []) w [r6 none 0 0 [], r18 none 0 0 [], b8 g1620 g1621 t1611.2.1 t1611.2.2.1 t1611.2.2.2.1 t1611.2.2.2.2.1, b7 g1621 A1622 ((t1611.2.2.2.2.2.2).length) n1624 t3600.2.1, r6 A1622 ((t1611.2.2.2.2.2.2).length) n1624 t3600.2.2, r18 A4545 ((t3669.2.1).length) n4547 t3669.2.1, r6 A4549 ((t3669.2.2).length) n4551 t3669.2.2, r18 A3142 ((t3137.2.1).length) n3144 t3137.2.1, r6 A3146 ((t3137.2.2).length) n3148 t3137.2.2, r18 A3117 ((t3112.2.1).length) n3119 t3112.2.1, r6 A3121 ((t3112.2.2).length) n3123 t3112.2.2, b20 g3125 A3117 ((t3112.2.1).length) n3119 A3121 ((t3112.2.2).length) n3123, b20 g3150 A3142 ((t3137.2.1).length) n3144 A3146 ((t3137.2.2).length) n3148, b20 g4553 A4545 ((t3669.2.1).length) n4547 A4549 ((t3669.2.2).length) n4551] w4564) := ⟨by rw [hst]; exact hq1⟩; clear hq0 hq1; clear hst; replace HS : Aside0 (Sep (fps []) w [b8 g1620 g1621 t1611.2.1 t1611.2.2.1 t1611.2.2.2.1 t1611.2.2.2.2.1, b7 g1621 A1622 ((t1611.2.2.2.2.2.2).length) n1624 t3600.2.1, r6 A1622 ((t1611.2.2.2.2.2.2).length) n1624 t3600.2.2, r18 A4545 ((t3669.2.1).length) n4547 t3669.2.1, r6 A4549 ((t3669.2.2).length) n4551 t3669.2.2, r18 A3142 ((t3137.2.1).length) n3144 t3137.2.1, r6 A3146 ((t3137.2.2).length) n3148 t3137.2.2, r18 A3117 ((t3112.2.1).length) n3119 t3112.2.1, r6 A3121 ((t3112.2.2).length) n3123 t3112.2.2, b20 g3125 A3117 ((t3112.2.1).length) n3119 A3121 ((t3112.2.2).length) n3123, b20 g3150 A3142 ((t3137.2.1).length) n3144 A3146 ((t3137.2.2).length) n3148, b20 g4553 A4545 ((t3669.2.1).length) n4547 A4549 ((t3669.2.2).length) n4551] w4564) := ⟨HS.out.sub (.cons _ (.cons _ (.cons_cons _ (.cons_cons _ (.cons_cons _ (.cons_cons _ (.cons_cons _ (.cons_cons _ (.cons_cons _ (.cons_cons _ (.cons_cons _ (.cons_cons _ (.cons_cons _ (.cons_cons _ .slnil))))))))))))))⟩))
              obtain ⟨t3694, HA4565, H⟩ := bind_some H
              refine (obj_See.calls _ t3600.2.2 t3600.2.1 t1611.2.1 t1611.2.2.1 t1611.2.2.2.1 t1611.2.2.2.2.1 t2557.1 g1620 g1621 A1622 ((t1611.2.2.2.2.2.2).length) n1624 t3694 _ ⟨HGl0.out.pass HS.out⟩ ⟨HS.out.begin⟩ HA4565).mono ?_
              rintro e_ w4566 ⟨A4569, m4570, n4571, A4573, m4574, n4575, rfl, hS⟩
              replace HS : Aside0 (Sep (fps []) w [b8 g1620 g1621 t1611.2.1 t1611.2.2.1 t1611.2.2.2.1 t1611.2.2.2.2.1, b7 g1621 A1622 ((t1611.2.2.2.2.2.2).length) n1624 t3600.2.1, r6 A1622 ((t1611.2.2.2.2.2.2).length) n1624 t3600.2.2, r18 A4569 m4570 n4571 t3694.2.1, r6 A4573 m4574 n4575 t3694.2.2, r18 A4545 ((t3669.2.1).length) n4547 t3669.2.1, r6 A4549 ((t3669.2.2).length) n4551 t3669.2.2, r18 A3142 ((t3137.2.1).length) n3144 t3137.2.1, r6 A3146 ((t3137.2.2).length) n3148 t3137.2.2, r18 A3117 ((t3112.2.1).length) n3119 t3112.2.1, r6 A3121 ((t3112.2.2).length) n3123 t3112.2.2, b20 g3125 A3117 ((t3112.2.1).length) n3119 A3121 ((t3112.2.2).length) n3123, b20 g3150 A3142 ((t3137.2.1).length) n3144 A3146 ((t3137.2.2).length) n3148, b20 g4553 A4545 ((t3669.2.1).length) n4547 A4549 ((t3669.2.2).length) n4551] w4566) := ⟨HS.out.call hS⟩
              clear hS
              obtain rfl := (row_len (HS.out.at3)).symm
              obtain rfl := (row_len (HS.out.at4)).symm
              go_wp2_with (first | ((with_reducible refine gate_dst (N := 27) rfl ?_); refine box_on ?hg (N := 27) ?hd (cs := #[.slice none 0 0, .slice none 0 0]) (t := 71) ?hr ?_; (case hd => rfl); (case hg => rfl); (case hr => first | (go_simp; done) | (go_simp; rfl)); intro g4577 hg w4578 hbox hb; replace HS : Aside0 (Sep (fps []) w [b8 g1620 g1621 t1611.2.1 t1611.2.2.1 t1611.2.2.2.1 t1611.2.2.2.2.1, b7 g1621 A1622 ((t1611.2.2.2.2.2.2).length) n1624 t3600.2.1, r6 A1622 ((t1611.2.2.2.2.2.2).length) n1624 t3600.2.2, r18 A4569 ((t3694.2.1).length) n4571 t3694.2.1, r6 A4573 ((t3694.2.2).length) n4575 t3694.2.2, r18 A4545 ((t3669.2.1).length) n4547 t3669.2.1, r6 A4549 ((t3669.2.2).length) n4551 t3669.2.2, r18 A3142 ((t3137.2.1).length) n3144 t3137.2.1, r6 A3146 ((t3137.2.2).length) n3148 t3137.2.2, r18 A3117 ((t3112.2.1).length) n3119 t3112.2.1, r6 A3121 ((t3112.2.2).length) n3123 t3112.2.2, b20 g3125 A3117 ((t3112.2.1).length) n3119 A3121 ((t3112.2.2).length) n3123, b20 g3150 A3142 ((t3137.2.1).length) n3144 A3146 ((t3137.2.2).length) n3148, b20 g4553 A4545 ((t3669.2.1).length) n4547 A4549 ((t3669.2.2).length) n4551, b17 g4577] w4578) := ⟨HS.out.box hg hbox hb⟩; clear hg hbox hb; replace HS : Aside0 (Sep (fps []) w [r18 none 0 0 [], b8 g1620 g1621 t1611.2.1 t1611.2.2.1 t1611.2.2.2.1 t1611.2.2.2.2.1, b7 g1621 A1622 ((t1611.2.2.2.2.2.2).length) n1624 t3600.2.1, r6 A1622 ((t1611.2.2.2.2.2.2).length) n1624 t3600.2.2, r18 A4569 ((t3694.2.1).length) n4571 t3694.2.1, r6 A4573 ((t3694.2.2).length) n4575 t3694.2.2, r18 A4545 ((t3669.2.1).length) n4547 t3669.2.1, r6 A4549 ((t3669.2.2).length) n4551 t3669.2.2, r18 A3142 ((t3137.2.1).length) n3144 t3137.2.1, r6 A3146 ((t3137.2.2).length) n3148 t3137.2.2, r18 A3117 ((t3112.2.1).length) n3119 t3112.2.1, r6 A3121 ((t3112.2.2).length) n3123 t3112.2.2, b20 g3125 A3117 ((t3112.2.1).length) n3119 A3121 ((t3112.2.2).length) n3123, b20 g3150 A3142 ((t3137.2.1).length) n3144 A3146 ((t3137.2.2).length) n3148, b20 g4553 A4545 ((t3669.2.1).length) n4547 A4549 ((t3669.2.2).length) n4551, b19 g4577 none 0 0] w4578) := ⟨HS.out.nilrow 3 (Value.int .i64)⟩; replace HS : Aside0 (Sep (fps []) w [r6 none 0 0 [], r18 none 0 0 [], b8 g1620 g1621 t1611.2.1 t1611.2.2.1 t1611.2.2.2.1 t1611.2.2.2.2.1, b7 g1621 A1622 ((t1611.2.2.2.2.2.2).length) n1624 t3600.2.1, r6 A1622 ((t1611.2.2.2.2.2.2).length) n1624 t3600.2.2, r18 A4569 ((t3694.2.1).length) n4571 t3694.2.1, r6 A4573 ((t3694.2.2).length) n4575 t3694.2.2, r18 A4545 ((t3669.2.1).length) n4547 t3669.2.1, r6 A4549 ((t3669.2.2).length) n4551 t3669.2.2, r18 A3142 ((t3137.2.1).length) n3144 t3137.2.1, r6 A3146 ((t3137.2.2).length) n3148 t3137.2.2, r18 A3117 ((t3112.2.1).length) n3119 t3112.2.1, r6 A3121 ((t3112.2.2).length) n3123 t3112.2.2, b20 g3125 A3117 ((t3112.2.1).length) n3119 A3121 ((t3112.2.2).length) n3123, b20 g3150 A3142 ((t3137.2.1).length) n3144 A3146 ((t3137.2.2).length) n3148, b20 g4553 A4545 ((t3669.2.1).length) n4547 A4549 ((t3669.2.2).length) n4551, b20 g4577 none 0 0 none 0 0] w4578) := ⟨HS.out.nilrow 33 (Value.int .u32)⟩; have hc4584 : w4578.cell? ⟨g4577, 0, none⟩ = some (.slice none 0 0) := blk_cellv (HS.out.nth 16 rfl) 0 rfl; have hz4585 : w4578.frozen? ⟨g4577, 0, none⟩ = false := blk_fz (HS.out.nth 16 rfl) 0; have hc4586 : w4578.cell? ⟨g4577, 1, none⟩ = some (.slice none 0 0) := blk_cellv (HS.out.nth 16 rfl) 1 rfl; have hz4587 : w4578.frozen? ⟨g4577, 1, none⟩ = false := blk_fz (HS.out.nth 16 rfl) 1) | ((with_reducible refine gate_store (t := 71) (p := 27) rfl ?_); refine store_event (w1 := (World.setCell (World.setCell w4578 ⟨g4577, 0, none⟩ (.slice A4569 ((t3694.2.1).length) n4571)) ⟨g4577, 1, none⟩ (.slice A4573 ((t3694.2.2).length) n4575))) rfl (t := 71) (p := 27) rfl rfl ?hr ?_; (case hr => first | (go_simp; done) | (go_simp; rfl)); intro w4588 hst; clear hc4584 hz4585 hc4586 hz4587; have hq0 : Sep (fps []) w [r6 none 0 0 [], r18 none 0 0 [], b8 g1620 g1621 t1611.2.1 t1611.2.2.1 t1611.2.2.2.1 t1611.2.2.2.2.1, b7 g1621 A1622 ((t1611.2.2.2.2.2.2).length) n1624 t3600.2.1, r6 A1622 ((t1611.2.2.2.2.2.2).length) n1624 t3600.2.2, r18 A4569 ((t3694.2.1).length) n4571 t3694.2.1, r6 A4573 ((t3694.2.2).length) n4575 t3694.2.2, r18 A4545 ((t3669.2.1).length) n4547 t3669.2.1, r6 A4549 ((t3669.2.2).length) n4551 t3669.2.2, r18 A3142 ((t3137.2.1).length) n3144 t3137.2.1, r6 A3146 ((t3137.2.2).length) n3148 t3137.2.2, r18 A3117 ((t3112.2.1).length) n3119 t3112.2.1, r6 A3121 ((t3112.2.2).length) n3123 t3112.2.2, b20 g3125 A3117 ((t3112.2.1).length) n3119 A3121 ((t3112.2.2).length) n3123, b20 g3150 A3142 ((t3137.2.1).length) n3144 A3146 ((t3137.2.2).length) n3148, b20 g4553 A4545 ((t3669.2.1).length) n4547 A4549 ((t3669.2.2).length) n4551, b20 g4577 A4569 ((t3694.2.1).length) n4571 none 0 0] (World.setCell w4578 ⟨g4577, 0, none⟩ (.slice A4569 ((t3694.2.1).length) n4571)) := (HS.out).set1 (l1 := [r6 none 0 0 [], r18 none 0 0 [], b8 g1620 g1621 t1611.2.1 t1611.2.2.1 t1611.2.2.2.1 t1611.2.2.2.2.1, b7 g1621 A1622 ((t1611.2.2.2.2.2.2).length) n1624 t3600.2.1, r6 A1622 ((t1611.2.2.2.2.2.2).length) n1624 t3600.2.2, r18 A4569 ((t3694.2.1).length) n4571 t3694.2.1, r6 A4573 ((t3694.2.2).length) n4575 t3694.2.2, r18 A4545 ((t3669.2.1).length) n4547 t3669.2.1, r6 A4549 ((t3669.2.2).length) n4551 t3669.2.2, r18 A3142 ((t3137.2.1).length) n3144 t3137.2.1, r6 A3146 ((t3137.2.2).length) n3148 t3137.2.2, r18 A3117 ((t3112.2.1).length) n3119 t3112.2.1, r6 A3121 ((t3112.2.2).length) n3123 t3112.2.2, b20 g3125 A3117 ((t3112.2.1).length) n3119 A3121 ((t3112.2.2).length) n3123, b20 g3150 A3142 ((t3137.2.1).length) n3144 A3146 ((t3137.2.2).length) n3148, b20 g4553 A4545 ((t3669.2.1).length) n4547 A4549 ((t3669.2.2).length) n4551]) (l2 := []) 0 (.slice A4569 ((t3694.2.1).length) n4571); have hq1 : Sep (fps []) w [r6 none 0 0 [], r18 none 0 0 [], b8 g1620 g1621 t1611.2.1 t1611.2.2.1 t1611.2.2.2.1 t1611.2.2.2.2.1, b7 g1621 A1622 ((t1611.2.2.2.2.2.2).length) n1624 t3600.2.1, r6 A1622 ((t1611.2.2.2.2.2.2).length) n1624 t3600.2.2, r18 A4569 ((t3694.2.1).length) n4571 t3694.2.1, r6 A4573 ((t3694.2.2).length) n4575 t3694.2.2, r18 A4545 ((t3669.2.1).length) n4547 t3669.2.1, r6 A4549 ((t3669.2.2).length) n4551 t3669.2.2, r18 A3142 ((t3137.2.1).length) n3144 t3137.2.1, r6 A3146 ((t3137.2.2).length) n3148 t3137.2.2, r18 A3117 ((t3112.2.1).length) n3119 t3112.2.1, r6 A3121 ((t3112.2.2).length) n3123 t3112.2.2, b20 g3125 A3117 ((t3112.2.1).length) n3119 A3121 ((t3112.2.2).length) n3123, b20 g3150 A3142 ((t3137.2.1).length) n3144 A3146 ((t3137.2.2).length) n3148, b20 g4553 A4545 ((t3669.2.1).length) n4547 A4549 ((t3669.2.2).length) n4551, b20 g4577 A4569 ((t3694.2.1).length) n4571 A4573 ((t3694.2.2).length) n4575] (World.setCell (World.setCell w4578 ⟨g4577, 0, none⟩ (.slice A4569 ((t3694.2.1).length) n4571)) ⟨g4577, 1, none⟩ (.slice A4573 ((t3694.2.2).length) n4575)) := (hq0).set1 (l1 := [r6 none 0 0 [], r18 none 0 0 [], b8 g1620 g1621 t1611.2.1 t1611.2.2.1 t1611.2.2.2.1 t1611.2.2.2.2.1, b7 g1621 A1622 ((t1611.2.2.2.2.2.2).length) n1624 t3600.2.1, r6 A1622 ((t1611.2.2.2.2.2.2).length) n1624 t3600.2.2, r18 A4569 ((t3694.2.1).length) n4571 t3694.2.1, r6 A4573 ((t3694.2.2).length) n4575 t3694.2.2, r18 A4545 ((t3669.2.1).length) n4547 t3669.2.1, r6 A4549 ((t3669.2.2).length) n4551 t3669.2.2, r18 A3142 ((t3137.2.1).length) n3144 t3137.2.1, r6 A3146 ((t3137.2.2).length) n3148 t3137.2.2, r18 A3117 ((t3112.2.1).length) n3119 t3112.2.1, r6 A3121 ((t3112.2.2).length) n3123 t3112.2.2, b20 g3125 A3117 ((t3112.2.1).length) n3119 A3121 ((t3112.2.2).length) n3123, b20 g3150 A3142 ((t3137.2.1).length) n3144 A3146 ((t3137.2.2).length) n3148, b20 g4553 A4545 ((t3669.2.1).length) n4547 A4549 ((t3669.2.2).length) n4551]) (l2 := []) 1 (.slice A4573 ((t3694.2.2).length) n4575); replace HS : Aside0 (Sep (fps []) w [r6 none 0 0 [], r18 none 0 0 [], b8 g1620 g1621 t1611.2.1 t1611.2.2.1 t1611.2.2.2.1 t1611.2.2.2.2.1, b7 g1621 A1622 ((t1611.2.2.2.2.2.2).length) n1624 t3600.2.1, r6 A1622 ((t1611.2.2.2.2.2.2).length) n1624 t3600.2.2, r18 A4569 ((t3694.2.1).length) n4571 t3694.2.1, r6 A4573 ((t3694.2.2).length) n4575 t3694.2.2, r18 A4545 ((t3669.2.1).length) n4547 t3669.2.1, r6 A4549 ((t3669.2.2).length) n4551 t3669.2.2, r18 A3142 ((t3137.2.1).length) n3144 t3137.2.1, r6 A3146 ((t3137.2.2).length) n3148 t3137.2.2, r18 A3117 ((t3112.2.1).length) n3119 t3112.2.1, r6 A3121 ((t3112.2.2).length) n3123 t3112.2.2, b20 g3125 A3117 ((t3112.2.1).length) n3119 A3121 ((t3112.2.2).length) n3123, b20 g3150 A3142 ((t3137.2.1).length) n3144 A3146 ((t3137.2.2).length) n3148, b20 g4553 A4545 ((t3669.2.1).length) n4547 A4549 ((t3669.2.2).length) n4551, b20 g4577 A4569 ((t3694.2.1).length) n4571 A4573 ((t3694.2.2).length) n4575] w4588) := ⟨by rw [hst]; exact hq1⟩; clear hq0 hq1; clear hst; replace HS : Aside0 (Sep (fps []) w [r18 A4569 ((t3694.2.1).length) n4571 t3694.2.1, r6 A4573 ((t3694.2.2).length) n4575 t3694.2.2, r18 A4545 ((t3669.2.1).length) n4547 t3669.2.1, r6 A4549 ((t3669.2.2).length) n4551 t3669.2.2, r18 A3142 ((t3137.2.1).length) n3144 t3137.2.1, r6 A3146 ((t3137.2.2).length) n3148 t3137.2.2, r18 A3117 ((t3112.2.1).length) n3119 t3112.2.1, r6 A3121 ((t3112.2.2).length) n3123 t3112.2.2, b20 g3125 A3117 ((t3112.2.1).length) n3119 A3121 ((t3112.2.2).length) n3123, b20 g3150 A3142 ((t3137.2.1).length) n3144 A3146 ((t3137.2.2).length) n3148, b20 g4553 A4545 ((t3669.2.1).length) n4547 A4549 ((t3669.2.2).length) n4551, b20 g4577 A4569 ((t3694.2.1).length) n4571 A4573 ((t3694.2.2).length) n4575] w4588) := ⟨HS.out.sub (.cons _ (.cons _ (.cons _ (.cons _ (.cons _ (.cons_cons _ (.cons_cons _ (.cons_cons _ (.cons_cons _ (.cons_cons _ (.cons_cons _ (.cons_cons _ (.cons_cons _ (.cons_cons _ (.cons_cons _ (.cons_cons _ (.cons_cons _ .slnil)))))))))))))))))⟩))
              obtain ⟨t4320, HA4589, H⟩ := bind_some H
              refine (quitrentlaw11_begun.calls _ t4320 _ ⟨HGl0.out.pass (l := []) HS.out⟩ ⟨Sep.start _⟩ HA4589).mono ?_
              rintro e_ w4590 ⟨rfl, hS⟩
              replace HS : Aside0 (Sep (fps []) w [r18 A4569 ((t3694.2.1).length) n4571 t3694.2.1, r6 A4573 ((t3694.2.2).length) n4575 t3694.2.2, r18 A4545 ((t3669.2.1).length) n4547 t3669.2.1, r6 A4549 ((t3669.2.2).length) n4551 t3669.2.2, r18 A3142 ((t3137.2.1).length) n3144 t3137.2.1, r6 A3146 ((t3137.2.2).length) n3148 t3137.2.2, r18 A3117 ((t3112.2.1).length) n3119 t3112.2.1, r6 A3121 ((t3112.2.2).length) n3123 t3112.2.2, b20 g3125 A3117 ((t3112.2.1).length) n3119 A3121 ((t3112.2.2).length) n3123, b20 g3150 A3142 ((t3137.2.1).length) n3144 A3146 ((t3137.2.2).length) n3148, b20 g4553 A4545 ((t3669.2.1).length) n4547 A4549 ((t3669.2.2).length) n4551, b20 g4577 A4569 ((t3694.2.1).length) n4571 A4573 ((t3694.2.2).length) n4575] w4590) := ⟨HS.out.call hS⟩
              clear hS
              by_cases c4591 : t4320 = true
              · replace H := if_yes c4591 H
                have c4591b0 : t4320 = true := c4591
                have c4591b1 : (!t4320) = false := by rw [c4591b0]; rfl
                clear c4591
                have hc4592 : w4590.cell? ⟨g4553, 0, none⟩ = some (.slice A4545 ((t3669.2.1).length) n4547) := blk_cellv (HS.out.nth 10 rfl) 0 rfl
                have hc4593 : w4590.cell? ⟨g3125, 0, none⟩ = some (.slice A3117 ((t3112.2.1).length) n3119) := blk_cellv (HS.out.at8) 0 rfl
                go_wp2_with fail
                clear hc4592 hc4593
                obtain ⟨t4326, HA4594, H⟩ := bind_some H
                refine (quitrentref01_Ints.calls _ t3669.2.1 t3112.2.1 A4545 n4547 A3117 n3119 t4326 _ ⟨Rd.ownI (l := []) HS.out 2 rfl⟩ ⟨Rd.ownI (l := []) HS.out 6 rfl⟩ ⟨HGl0.out.pass (l := []) HS.out⟩ ⟨Sep.start _⟩ HA4594).mono ?_
                rintro e_ w4595 ⟨rfl, hS⟩
                replace HS : Aside0 (Sep (fps []) w [r18 A4569 ((t3694.2.1).length) n4571 t3694.2.1, r6 A4573 ((t3694.2.2).length) n4575 t3694.2.2, r18 A4545 ((t3669.2.1).length) n4547 t3669.2.1, r6 A4549 ((t3669.2.2).length) n4551 t3669.2.2, r18 A3142 ((t3137.2.1).length) n3144 t3137.2.1, r6 A3146 ((t3137.2.2).length) n3148 t3137.2.2, r18 A3117 ((t3112.2.1).length) n3119 t3112.2.1, r6 A3121 ((t3112.2.2).length) n3123 t3112.2.2, b20 g3125 A3117 ((t3112.2.1).length) n3119 A3121 ((t3112.2.2).length) n3123, b20 g3150 A3142 ((t3137.2.1).length) n3144 A3146 ((t3137.2.2).length) n3148, b20 g4553 A4545 ((t3669.2.1).length) n4547 A4549 ((t3669.2.2).length) n4551, b20 g4577 A4569 ((t3694.2.1).length) n4571 A4573 ((t3694.2.2).length) n4575] w4595) := ⟨HS.out.call hS⟩
                clear hS
                by_cases c4596 : t4326 = true
                · replace H := if_yes c4596 H
                  have c4596b0 : t4326 = true := c4596
                  have c4596b1 : (!t4326) = false := by rw [c4596b0]; rfl
                  clear c4596
                  have hc4597 : w4595.cell? ⟨g4553, 1, none⟩ = some (.slice A4549 ((t3669.2.2).length) n4551) := blk_cellv (HS.out.nth 10 rfl) 1 rfl
                  have hc4598 : w4595.cell? ⟨g3125, 1, none⟩ = some (.slice A3121 ((t3112.2.2).length) n3123) := blk_cellv (HS.out.at8) 1 rfl
                  go_wp2_with fail
                  clear hc4597 hc4598
                  obtain ⟨t4371, HA4599, H⟩ := bind_some H
                  refine (quitrentref01_Same.calls _ t3669.2.2 t3112.2.2 A4549 n4551 A3121 n3123 t4371 _ ⟨Rd.ownI (l := []) HS.out 3 rfl⟩ ⟨Rd.ownI (l := []) HS.out 7 rfl⟩ ⟨HGl0.out.pass (l := []) HS.out⟩ ⟨Sep.start _⟩ HA4599).mono ?_
                  rintro e_ w4600 ⟨rfl, hS⟩
                  replace HS : Aside0 (Sep (fps []) w [r18 A4569 ((t3694.2.1).length) n4571 t3694.2.1, r6 A4573 ((t3694.2.2).length) n4575 t3694.2.2, r18 A4545 ((t3669.2.1).length) n4547 t3669.2.1, r6 A4549 ((t3669.2.2).length) n4551 t3669.2.2, r18 A3142 ((t3137.2.1).length) n3144 t3137.2.1, r6 A3146 ((t3137.2.2).length) n3148 t3137.2.2, r18 A3117 ((t3112.2.1).length) n3119 t3112.2.1, r6 A3121 ((t3112.2.2).length) n3123 t3112.2.2, b20 g3125 A3117 ((t3112.2.1).length) n3119 A3121 ((t3112.2.2).length) n3123, b20 g3150 A3142 ((t3137.2.1).length) n3144 A3146 ((t3137.2.2).length) n3148, b20 g4553 A4545 ((t3669.2.1).length) n4547 A4549 ((t3669.2.2).length) n4551, b20 g4577 A4569 ((t3694.2.1).length) n4571 A4573 ((t3694.2.2).length) n4575] w4600) := ⟨HS.out.call hS⟩
                  clear hS
                  by_cases c4601 : t4371 = true
                  · replace H := if_yes c4601 H
                    have c4601b0 : t4371 = true := c4601
                    have c4601b1 : (!t4371) = false := by rw [c4601b0]; rfl
                    clear c4601
                    have hc4602 : w4600.cell? ⟨g4577, 0, none⟩ = some (.slice A4569 ((t3694.2.1).length) n4571) := blk_cellv (HS.out.nth 11 rfl) 0 rfl
                    have hc4603 : w4600.cell? ⟨g3150, 0, none⟩ = some (.slice A3142 ((t3137.2.1).length) n3144) := blk_cellv (HS.out.nth 9 rfl) 0 rfl
                    go_wp2_with fail
                    clear hc4602 hc4603
                    obtain ⟨t4377, HA4604, H⟩ := bind_some H
                    refine (quitrentref01_Ints.calls _ t3694.2.1 t3137.2.1 A4569 n4571 A3142 n3144 t4377 _ ⟨Rd.ownI (l := []) HS.out 0 rfl⟩ ⟨Rd.ownI (l := []) HS.out 4 rfl⟩ ⟨HGl0.out.pass (l := []) HS.out⟩ ⟨Sep.start _⟩ HA4604).mono ?_
                    rintro e_ w4605 ⟨rfl, hS⟩
                    replace HS : Aside0 (Sep (fps []) w [r18 A4569 ((t3694.2.1).length) n4571 t3694.2.1, r6 A4573 ((t3694.2.2).length) n4575 t3694.2.2, r18 A4545 ((t3669.2.1).length) n4547 t3669.2.1, r6 A4549 ((t3669.2.2).length) n4551 t3669.2.2, r18 A3142 ((t3137.2.1).length) n3144 t3137.2.1, r6 A3146 ((t3137.2.2).length) n3148 t3137.2.2, r18 A3117 ((t3112.2.1).length) n3119 t3112.2.1, r6 A3121 ((t3112.2.2).length) n3123 t3112.2.2, b20 g3125 A3117 ((t3112.2.1).length) n3119 A3121 ((t3112.2.2).length) n3123, b20 g3150 A3142 ((t3137.2.1).length) n3144 A3146 ((t3137.2.2).length) n3148, b20 g4553 A4545 ((t3669.2.1).length) n4547 A4549 ((t3669.2.2).length) n4551, b20 g4577 A4569 ((t3694.2.1).length) n4571 A4573 ((t3694.2.2).length) n4575] w4605) := ⟨HS.out.call hS⟩
                    clear hS
                    by_cases c4606 : t4377 = true
                    · replace H := if_yes c4606 H
                      have c4606b0 : t4377 = true := c4606
                      have c4606b1 : (!t4377) = false := by rw [c4606b0]; rfl
                      clear c4606
                      have hc4607 : w4605.cell? ⟨g4577, 1, none⟩ = some (.slice A4573 ((t3694.2.2).length) n4575) := blk_cellv (HS.out.nth 11 rfl) 1 rfl
                      have hc4608 : w4605.cell? ⟨g3150, 1, none⟩ = some (.slice A3146 ((t3137.2.2).length) n3148) := blk_cellv (HS.out.nth 9 rfl) 1 rfl
                      go_wp2_with fail
                      clear hc4607 hc4608
                      obtain ⟨t4383, HA4609, H⟩ := bind_some H
                      refine (quitrentref01_Same.calls _ t3694.2.2 t3137.2.2 A4573 n4575 A3146 n3148 t4383 _ ⟨Rd.ownI (l := []) HS.out 1 rfl⟩ ⟨Rd.ownI (l := []) HS.out 5 rfl⟩ ⟨HGl0.out.pass (l := []) HS.out⟩ ⟨Sep.start _⟩ HA4609).mono ?_
                      rintro e_ w4610 ⟨rfl, hS⟩
                      replace HS : Aside0 (Sep (fps []) w [r18 A4569 ((t3694.2.1).length) n4571 t3694.2.1, r6 A4573 ((t3694.2.2).length) n4575 t3694.2.2, r18 A4545 ((t3669.2.1).length) n4547 t3669.2.1, r6 A4549 ((t3669.2.2).length) n4551 t3669.2.2, r18 A3142 ((t3137.2.1).length) n3144 t3137.2.1, r6 A3146 ((t3137.2.2).length) n3148 t3137.2.2, r18 A3117 ((t3112.2.1).length) n3119 t3112.2.1, r6 A3121 ((t3112.2.2).length) n3123 t3112.2.2, b20 g3125 A3117 ((t3112.2.1).length) n3119 A3121 ((t3112.2.2).length) n3123, b20 g3150 A3142 ((t3137.2.1).length) n3144 A3146 ((t3137.2.2).length) n3148, b20 g4553 A4545 ((t3669.2.1).length) n4547 A4549 ((t3669.2.2).length) n4551, b20 g4577 A4569 ((t3694.2.1).length) n4571 A4573 ((t3694.2.2).length) n4575] w4610) := ⟨HS.out.call hS⟩
                      clear hS
                      replace HS : Aside0 (Sep (fps []) w [] w4610) := ⟨HS.out.sub (.cons _ (.cons _ (.cons _ (.cons _ (.cons _ (.cons _ (.cons _ (.cons _ (.cons _ (.cons _ (.cons _ (.cons _ .slnil))))))))))))⟩
                      go_wp2_with fail
                      go_ret
                      rw [← some_eq H]
                      exact ⟨(by first | rfl | (simp [IntKind.wrap_u32]; done)), HS.out⟩
                    · replace H := if_no c4606 H
                      have c4606b0 : t4377 = false := by simpa using c4606
                      have c4606b1 : (!t4377) = true := by rw [c4606b0]; rfl
                      clear c4606
                      replace HS : Aside0 (Sep (fps []) w [] w4605) := ⟨HS.out.sub (.cons _ (.cons _ (.cons _ (.cons _ (.cons _ (.cons _ (.cons _ (.cons _ (.cons _ (.cons _ (.cons _ (.cons _ .slnil))))))))))))⟩
                      go_wp2_with fail
                      go_ret
                      rw [← some_eq H]
                      exact ⟨(by first | rfl | (simp [IntKind.wrap_u32]; done)), HS.out⟩
                  · replace H := if_no c4601 H
                    have c4601b0 : t4371 = false := by simpa using c4601
                    have c4601b1 : (!t4371) = true := by rw [c4601b0]; rfl
                    clear c4601
                    replace HS : Aside0 (Sep (fps []) w [] w4600) := ⟨HS.out.sub (.cons _ (.cons _ (.cons _ (.cons _ (.cons _ (.cons _ (.cons _ (.cons _ (.cons _ (.cons _ (.cons _ (.cons _ .slnil))))))))))))⟩
                    go_wp2_with fail
                    go_ret
                    rw [← some_eq H]
                    exact ⟨(by first | rfl | (simp [IntKind.wrap_u32]; done)), HS.out⟩
                · replace H := if_no c4596 H
                  have c4596b0 : t4326 = false := by simpa using c4596
                  have c4596b1 : (!t4326) = true := by rw [c4596b0]; rfl
                  clear c4596
                  replace HS : Aside0 (Sep (fps []) w [] w4595) := ⟨HS.out.sub (.cons _ (.cons _ (.cons _ (.cons _ (.cons _ (.cons _ (.cons _ (.cons _ (.cons _ (.cons _ (.cons _ (.cons _ .slnil))))))))))))⟩
                  go_wp2_with fail
                  go_ret
                  rw [← some_eq H]
                  exact ⟨(by first | rfl | (simp [IntKind.wrap_u32]; done)), HS.out⟩
              · replace H := if_no c4591 H
                have c4591b0 : t4320 = false := by simpa using c4591
                have c4591b1 : (!t4320) = true := by rw [c4591b0]; rfl
                clear c4591
                replace HS : Aside0 (Sep (fps []) w [] w4590) := ⟨HS.out.sub (.cons _ (.cons _ (.cons _ (.cons _ (.cons _ (.cons _ (.cons _ (.cons _ (.cons _ (.cons _ (.cons _ (.cons _ .slnil))))))))))))⟩
                go_wp2_with fail
                go_ret
                rw [← some_eq H]
                exact ⟨(by first | rfl | (simp [IntKind.wrap_u32]; done)), HS.out⟩
        · replace H := if_no c2561 H
          have c2561b0 : (t2557.2.1 == 0) = false := beq_eq_false_iff_ne.mpr c2561
          have c2561b1 : (t2557.2.1 != 0) = true := bne_iff_ne.mpr c2561
          clear c2561
          replace HS : Aside0 (Sep (fps []) w [b8 g1620 g1621 t1611.2.1 t1611.2.2.1 t1611.2.2.2.1 t1611.2.2.2.2.1, b7 g1621 A1622 ((t1611.2.2.2.2.2.2).length) n1624 t2557.2.2.1, r6 A1622 ((t1611.2.2.2.2.2.2).length) n1624 t2557.2.2.2] w2559) := ⟨HS.out.sub (.cons_cons _ (.cons_cons _ (.cons_cons _ (.cons _ .slnil))))⟩
          go_wp2_with fail
          obtain ⟨t4611, HA4612, H⟩ := bind_some H
          refine (quitrentlaw11_begun.calls _ t4611 _ ⟨HGl0.out.pass (l := []) HS.out⟩ ⟨Sep.start _⟩ HA4612).mono ?_
          rintro e_ w4613 ⟨rfl, hS⟩
          replace HS : Aside0 (Sep (fps []) w [b8 g1620 g1621 t1611.2.1 t1611.2.2.1 t1611.2.2.2.1 t1611.2.2.2.2.1, b7 g1621 A1622 ((t1611.2.2.2.2.2.2).length) n1624 t2557.2.2.1, r6 A1622 ((t1611.2.2.2.2.2.2).length) n1624 t2557.2.2.2] w4613) := ⟨HS.out.call hS⟩
          clear hS
          replace HS : Aside0 (Sep (fps []) w [] w4613) := ⟨HS.out.sub (.cons _ (.cons _ (.cons _ .slnil)))⟩
          go_wp2_with fail
          go_ret
          rw [← some_eq H]
          exact ⟨(by first | rfl | (simp [IntKind.wrap_u32]; done)), HS.out⟩
      · replace H := if_no c2560 H
        have c2560b0 : (t2552.2.1 == 0) = false := beq_eq_false_iff_ne.mpr c2560
        have c2560b1 : (t2552.2.1 != 0) = true := bne_iff_ne.mpr c2560
        clear c2560
        replace HS : Aside0 (Sep (fps []) w [b8 g1620 g1621 t1611.2.1 t1611.2.2.1 t1611.2.2.2.1 t1611.2.2.2.2.1, b7 g1621 A1622 ((t1611.2.2.2.2.2.2).length) n1624 t2557.2.2.1, r6 A1622 ((t1611.2.2.2.2.2.2).length) n1624 t2557.2.2.2] w2559) := ⟨HS.out.sub (.cons_cons _ (.cons_cons _ (.cons_cons _ (.cons _ .slnil))))⟩
        go_wp2_with fail
        obtain ⟨t4611, HA4614, H⟩ := bind_some H
        refine (quitrentlaw11_begun.calls _ t4611 _ ⟨HGl0.out.pass (l := []) HS.out⟩ ⟨Sep.start _⟩ HA4614).mono ?_
        rintro e_ w4615 ⟨rfl, hS⟩
        replace HS : Aside0 (Sep (fps []) w [b8 g1620 g1621 t1611.2.1 t1611.2.2.1 t1611.2.2.2.1 t1611.2.2.2.2.1, b7 g1621 A1622 ((t1611.2.2.2.2.2.2).length) n1624 t2557.2.2.1, r6 A1622 ((t1611.2.2.2.2.2.2).length) n1624 t2557.2.2.2] w4615) := ⟨HS.out.call hS⟩
        clear hS
        replace HS : Aside0 (Sep (fps []) w [] w4615) := ⟨HS.out.sub (.cons _ (.cons _ (.cons _ .slnil)))⟩
        go_wp2_with fail
        go_ret
        rw [← some_eq H]
        exact ⟨(by first | rfl | (simp [IntKind.wrap_u32]; done)), HS.out⟩
    · replace H := if_no c1626 H
      have c1626b0 : t1611.1 = false := by simpa using c1626
      have c1626b1 : (!t1611.1) = true := by rw [c1626b0]; rfl
      try rw [c1626b1]
      clear c1626
      replace HS : Aside0 (Sep (fps []) w [] w1616) := ⟨HS.out.sub (.cons _ (.cons _ (.cons _ (.cons _ (.cons _ .slnil)))))⟩
      go_wp2_with fail
      go_ret
      rw [← some_eq H]
      exact ⟨(by first | rfl | (simp [IntKind.wrap_u32]; done)), HS.out⟩
end Go.Proofs.YtobeonkddamnoaaDoor.C

/- Each function of the group TN does what its plain function says, and changes nothing that was there; proved by walking its code. No condition. -/
import Derived.Test.YtobeonkddamnoaaGreatDoorQw
import Derived.Test.YtobeonkddamnoaaGreatDoorMTN
import Derived.Test.YtobeonkddamnoaaGreatDoorGTN0
import Derived.Test.YtobeonkddamnoaaGreatDoorGTN1
import Derived.Test.YtobeonkddamnoaaGreatDoorGTN2
import Derived.Test.YtobeonkddamnoaaGreatDoorGTN3
namespace Go.Proofs.YtobeonkddamnoaaGreatDoor.C
open Go.RowKit Go.Proofs.YtobeonkddamnoaaGreatDoorW.PrintWords Go.Proofs.YtobeonkddamnoaaGreatDoorW.PrintLast Go.Proofs.YtobeonkddamnoaaGreatDoor.Q Go.Proofs.YtobeonkddamnoaaGreatDoor.M
set_option linter.unusedVariables false
set_option linter.unusedSimpArgs false
set_option maxHeartbeats 30000000 in
set_option maxRecDepth 100000 in
theorem tint_change_F54.calls (k : Nat) (l5002 : List Int) (a5007 : Int) (a5008 : Int) (a5009 : Int) (a5010 : Int) (a5011 : Int) (a5012 : Int) (a5017 : Int) (g4998 : Nat) (g5000 : Nat) (A5003 : Option Addr) (m5004 : Nat) (n5005 : Nat) (g5014 : Nat) (g5016 : Nat) (r : Bool × Int × List Int) (w : World)  (HGl0 : Aside0 (Gl 0 #[.int .i64 0, .int .i64 0, .int .i64 0, .int .i64 0, .int .i64 0] (fps [b14 g4998 g5000 a5008 a5009 a5010 a5011, b13 g5000 A5003 m5004 n5005 a5007, r7 A5003 m5004 n5005 l5002, b16 g5014 g4998, b2 g5016 a5017]) w)) (HS : Aside0 (Sep (fps [b14 g4998 g5000 a5008 a5009 a5010 a5011, b13 g5000 A5003 m5004 n5005 a5007, r7 A5003 m5004 n5005 l5002, b16 g5014 g4998, b2 g5016 a5017]) w [b14 g4998 g5000 a5008 a5009 a5010 a5011, b13 g5000 A5003 m5004 n5005 a5007, r7 A5003 m5004 n5005 l5002, b16 g5014 g4998, b2 g5016 a5017] w)) (H : Aside0 (tint_change_F54.f k l5002 a5007 a5008 a5009 a5010 a5011 a5012 a5017 = some r)) :
    Calls Tryz.prog 51 #[.pointer (some ⟨g4998, 0, none⟩), .int .i64 a5012, .func (.func 54) #[] #[.pointer (some ⟨g5014, 0, none⟩), .pointer (some ⟨g5016, 0, none⟩)]] w fun e w' => e = .returned (.bool r.1) ∧ Sep (fps [b14 g4998 g5000 a5008 a5009 a5010 a5011, b13 g5000 A5003 m5004 n5005 a5007, r7 A5003 m5004 n5005 l5002, b16 g5014 g4998, b2 g5016 a5017]) w [b14 g4998 g5000 a5008 a5009 a5010 a5011, b13 g5000 A5003 m5004 n5005 r.2.1, r7 A5003 m5004 n5005 r.2.2, b16 g5014 g4998, b2 g5016 a5017] w' := by
  generalize (fps [b14 g4998 g5000 a5008 a5009 a5010 a5011, b13 g5000 A5003 m5004 n5005 a5007, r7 A5003 m5004 n5005 l5002, b16 g5014 g4998, b2 g5016 a5017]) = FF at HS HGl0 ⊢
  obtain rfl := (row_len (HS.out.at2)).symm
  unfold tint_change_F54.f at H
  go_enter Tryz.func51, Tryz.ntmps51
  go_wp2_with fail
  obtain ⟨t5126, HA5127, H⟩ := bind_some H
  refine (tint_of.calls l5002 a5007 a5008 a5009 a5010 a5011 a5012 g4998 g5000 A5003 l5002.length n5005 t5126 _ ⟨HGl0.out.pass HS.out⟩ ⟨HS.out.begin⟩ HA5127).mono ?_
  rintro e_ w5128 ⟨rfl, hS⟩
  replace HS : Aside0 (Sep FF w [b14 g4998 g5000 a5008 a5009 a5010 a5011, b13 g5000 A5003 l5002.length n5005 t5126.2.2.2.2.2.2.2.2, r7 A5003 l5002.length n5005 l5002, b16 g5014 g4998, b2 g5016 a5017] w5128) := ⟨HS.out.call hS⟩
  clear hS
  by_cases c5147 : t5126.2.2.2.2.2.2.2.1 = true
  · have H := if_yes c5147 H
    have c5147b0 : t5126.2.2.2.2.2.2.2.1 = true := c5147
    have c5147b1 : (!t5126.2.2.2.2.2.2.2.1) = false := by rw [c5147b0]; rfl
    try rw [c5147b1]
    clear c5147
    go_wp2_with (first | ((with_reducible refine gate_dst (N := 7) rfl ?_); refine box_on ?hg (N := 7) ?hd (cs := #[.int .i64 0, .int .i64 0, .int .i64 0, .int .i64 0, .int .i64 0, .int .i64 0, .int .i64 0]) (t := 79) ?hr ?_; (case hd => rfl); (case hg => rfl); (case hr => first | (go_simp; done) | (go_simp; rfl)); intro g5129 hg w5130 hbox hb; replace HS : Aside0 (Sep FF w [b14 g4998 g5000 a5008 a5009 a5010 a5011, b13 g5000 A5003 l5002.length n5005 t5126.2.2.2.2.2.2.2.2, r7 A5003 l5002.length n5005 l5002, b16 g5014 g4998, b2 g5016 a5017, b3 g5129 0 0 0 0 0 0 0] w5130) := ⟨HS.out.box hg hbox hb⟩; clear hg hbox hb; have hc5132 : w5130.cell? ⟨g5129, 0, none⟩ = some (.int .i64 0) := blk_cellv (HS.out.at5) 0 rfl; have hz5133 : w5130.frozen? ⟨g5129, 0, none⟩ = false := blk_fz (HS.out.at5) 0; have hc5134 : w5130.cell? ⟨g5129, 1, none⟩ = some (.int .i64 0) := blk_cellv (HS.out.at5) 1 rfl; have hz5135 : w5130.frozen? ⟨g5129, 1, none⟩ = false := blk_fz (HS.out.at5) 1; have hc5136 : w5130.cell? ⟨g5129, 2, none⟩ = some (.int .i64 0) := blk_cellv (HS.out.at5) 2 rfl; have hz5137 : w5130.frozen? ⟨g5129, 2, none⟩ = false := blk_fz (HS.out.at5) 2; have hc5138 : w5130.cell? ⟨g5129, 3, none⟩ = some (.int .i64 0) := blk_cellv (HS.out.at5) 3 rfl; have hz5139 : w5130.frozen? ⟨g5129, 3, none⟩ = false := blk_fz (HS.out.at5) 3; have hc5140 : w5130.cell? ⟨g5129, 4, none⟩ = some (.int .i64 0) := blk_cellv (HS.out.at5) 4 rfl; have hz5141 : w5130.frozen? ⟨g5129, 4, none⟩ = false := blk_fz (HS.out.at5) 4; have hc5142 : w5130.cell? ⟨g5129, 5, none⟩ = some (.int .i64 0) := blk_cellv (HS.out.at5) 5 rfl; have hz5143 : w5130.frozen? ⟨g5129, 5, none⟩ = false := blk_fz (HS.out.at5) 5; have hc5144 : w5130.cell? ⟨g5129, 6, none⟩ = some (.int .i64 0) := blk_cellv (HS.out.at5) 6 rfl; have hz5145 : w5130.frozen? ⟨g5129, 6, none⟩ = false := blk_fz (HS.out.at5) 6) | ((with_reducible refine gate_store (t := 79) (p := 7) rfl ?_); refine store_event (w1 := (World.setCell (World.setCell (World.setCell (World.setCell (World.setCell (World.setCell (World.setCell w5130 ⟨g5129, 0, none⟩ (.int .i64 t5126.1)) ⟨g5129, 1, none⟩ (.int .i64 t5126.2.1)) ⟨g5129, 2, none⟩ (.int .i64 t5126.2.2.1)) ⟨g5129, 3, none⟩ (.int .i64 t5126.2.2.2.1)) ⟨g5129, 4, none⟩ (.int .i64 t5126.2.2.2.2.1)) ⟨g5129, 5, none⟩ (.int .i64 t5126.2.2.2.2.2.1)) ⟨g5129, 6, none⟩ (.int .i64 t5126.2.2.2.2.2.2.1))) rfl (t := 79) (p := 7) rfl rfl ?hr ?_; (case hr => first | (go_simp; done) | (go_simp; rfl)); intro w5146 hst; clear hc5132 hz5133 hc5134 hz5135 hc5136 hz5137 hc5138 hz5139 hc5140 hz5141 hc5142 hz5143 hc5144 hz5145; replace HS : Aside0 (Sep FF w [b14 g4998 g5000 a5008 a5009 a5010 a5011, b13 g5000 A5003 l5002.length n5005 t5126.2.2.2.2.2.2.2.2, r7 A5003 l5002.length n5005 l5002, b16 g5014 g4998, b2 g5016 a5017, b3 g5129 t5126.1 t5126.2.1 t5126.2.2.1 t5126.2.2.2.1 t5126.2.2.2.2.1 t5126.2.2.2.2.2.1 t5126.2.2.2.2.2.2.1] w5146) := ⟨by rw [hst]; exact HS.out.setAll (l1 := [b14 g4998 g5000 a5008 a5009 a5010 a5011, b13 g5000 A5003 l5002.length n5005 t5126.2.2.2.2.2.2.2.2, r7 A5003 l5002.length n5005 l5002, b16 g5014 g4998, b2 g5016 a5017]) (l2 := []) [.int .i64 t5126.1, .int .i64 t5126.2.1, .int .i64 t5126.2.2.1, .int .i64 t5126.2.2.2.1, .int .i64 t5126.2.2.2.2.1, .int .i64 t5126.2.2.2.2.2.1, .int .i64 t5126.2.2.2.2.2.2.1] rfl⟩; clear hst))
    obtain ⟨t5148, HA5149, H⟩ := bind_some H
    refine (tint_Parity.calls l5002 t5126.2.2.2.2.2.2.2.2 a5008 a5009 a5010 a5011 g4998 g5000 A5003 l5002.length n5005 t5148 _ ⟨HGl0.out.pass HS.out⟩ ⟨HS.out.begin⟩ HA5149).mono ?_
    rintro e_ w5150 ⟨rfl, hS⟩
    replace HS : Aside0 (Sep FF w [b14 g4998 g5000 a5008 a5009 a5010 a5011, b13 g5000 A5003 l5002.length n5005 t5148.2, r7 A5003 l5002.length n5005 l5002, b16 g5014 g4998, b2 g5016 a5017, b3 g5129 t5126.1 t5126.2.1 t5126.2.2.1 t5126.2.2.2.1 t5126.2.2.2.2.1 t5126.2.2.2.2.2.1 t5126.2.2.2.2.2.2.1] w5150) := ⟨HS.out.call hS⟩
    clear hS
    go_wp2_with fail
    replace HS : Aside0 (Sep FF w [b2 g5016 a5017, b14 g4998 g5000 a5008 a5009 a5010 a5011, b13 g5000 A5003 l5002.length n5005 t5148.2, r7 A5003 l5002.length n5005 l5002, b16 g5014 g4998, b3 g5129 t5126.1 t5126.2.1 t5126.2.2.1 t5126.2.2.2.1 t5126.2.2.2.2.1 t5126.2.2.2.2.2.1 t5126.2.2.2.2.2.2.1] w5150) := ⟨HS.out.front 4 (by simp)⟩
    replace HS : Aside0 (Sep FF w [r7 A5003 l5002.length n5005 l5002, b2 g5016 a5017, b14 g4998 g5000 a5008 a5009 a5010 a5011, b13 g5000 A5003 l5002.length n5005 t5148.2, b16 g5014 g4998, b3 g5129 t5126.1 t5126.2.1 t5126.2.2.1 t5126.2.2.2.1 t5126.2.2.2.2.1 t5126.2.2.2.2.2.1 t5126.2.2.2.2.2.2.1] w5150) := ⟨HS.out.front 3 (by simp)⟩
    replace HS : Aside0 (Sep FF w [b13 g5000 A5003 l5002.length n5005 t5148.2, r7 A5003 l5002.length n5005 l5002, b2 g5016 a5017, b14 g4998 g5000 a5008 a5009 a5010 a5011, b16 g5014 g4998, b3 g5129 t5126.1 t5126.2.1 t5126.2.2.1 t5126.2.2.2.1 t5126.2.2.2.2.1 t5126.2.2.2.2.2.1 t5126.2.2.2.2.2.2.1] w5150) := ⟨HS.out.front 3 (by simp)⟩
    replace HS : Aside0 (Sep FF w [b14 g4998 g5000 a5008 a5009 a5010 a5011, b13 g5000 A5003 l5002.length n5005 t5148.2, r7 A5003 l5002.length n5005 l5002, b2 g5016 a5017, b16 g5014 g4998, b3 g5129 t5126.1 t5126.2.1 t5126.2.2.1 t5126.2.2.2.1 t5126.2.2.2.2.1 t5126.2.2.2.2.2.1 t5126.2.2.2.2.2.2.1] w5150) := ⟨HS.out.front 3 (by simp)⟩
    replace HS : Aside0 (Sep FF w [b16 g5014 g4998, b14 g4998 g5000 a5008 a5009 a5010 a5011, b13 g5000 A5003 l5002.length n5005 t5148.2, r7 A5003 l5002.length n5005 l5002, b2 g5016 a5017, b3 g5129 t5126.1 t5126.2.1 t5126.2.2.1 t5126.2.2.2.1 t5126.2.2.2.2.1 t5126.2.2.2.2.2.1 t5126.2.2.2.2.2.2.1] w5150) := ⟨HS.out.front 4 (by simp)⟩
    replace HS : Aside0 (Sep FF w [b3 g5129 t5126.1 t5126.2.1 t5126.2.2.1 t5126.2.2.2.1 t5126.2.2.2.2.1 t5126.2.2.2.2.2.1 t5126.2.2.2.2.2.2.1, b16 g5014 g4998, b14 g4998 g5000 a5008 a5009 a5010 a5011, b13 g5000 A5003 l5002.length n5005 t5148.2, r7 A5003 l5002.length n5005 l5002, b2 g5016 a5017] w5150) := ⟨HS.out.front 5 (by simp)⟩
    obtain ⟨t5151, HA5152, H⟩ := bind_some H
    refine (tint_Deepen_1_1.calls t5126.1 t5126.2.1 t5126.2.2.1 t5126.2.2.2.1 t5126.2.2.2.2.1 t5126.2.2.2.2.2.1 t5126.2.2.2.2.2.2.1 t5148.1 l5002 t5148.2 a5008 a5009 a5010 a5011 a5017 g5129 g5014 g4998 g5000 A5003 l5002.length n5005 g5016 t5151 _ ⟨HGl0.out.pass HS.out⟩ ⟨HS.out.begin⟩ HA5152).mono ?_
    rintro e_ w5153 ⟨rfl, hS⟩
    replace HS : Aside0 (Sep FF w [b3 g5129 t5126.1 t5126.2.1 t5126.2.2.1 t5151.1 t5126.2.2.2.2.1 t5126.2.2.2.2.2.1 t5126.2.2.2.2.2.2.1, b16 g5014 g4998, b14 g4998 g5000 a5008 a5009 a5010 a5011, b13 g5000 A5003 l5002.length n5005 t5151.2.1, r7 A5003 l5002.length n5005 t5151.2.2, b2 g5016 a5017] w5153) := ⟨HS.out.call hS⟩
    clear hS
    have hc5154 : w5153.cell? ⟨g5129, 0, none⟩ = some (.int .i64 t5126.1) := blk_cellv (HS.out.at0) 0 rfl
    have hc5155 : w5153.cell? ⟨g5129, 1, none⟩ = some (.int .i64 t5126.2.1) := blk_cellv (HS.out.at0) 1 rfl
    have hc5156 : w5153.cell? ⟨g5129, 2, none⟩ = some (.int .i64 t5126.2.2.1) := blk_cellv (HS.out.at0) 2 rfl
    have hc5157 : w5153.cell? ⟨g5129, 3, none⟩ = some (.int .i64 t5151.1) := blk_cellv (HS.out.at0) 3 rfl
    have hc5158 : w5153.cell? ⟨g5129, 4, none⟩ = some (.int .i64 t5126.2.2.2.2.1) := blk_cellv (HS.out.at0) 4 rfl
    have hc5159 : w5153.cell? ⟨g5129, 5, none⟩ = some (.int .i64 t5126.2.2.2.2.2.1) := blk_cellv (HS.out.at0) 5 rfl
    have hc5160 : w5153.cell? ⟨g5129, 6, none⟩ = some (.int .i64 t5126.2.2.2.2.2.2.1) := blk_cellv (HS.out.at0) 6 rfl
    go_wp2_with fail
    clear hc5154 hc5155 hc5156 hc5157 hc5158 hc5159 hc5160
    obtain ⟨t5161, HA5162, H⟩ := bind_some H
    refine (tag_Pack.calls _ t5126.1 t5126.2.1 t5126.2.2.1 t5151.1 t5126.2.2.2.2.1 t5126.2.2.2.2.2.1 t5126.2.2.2.2.2.2.1 t5161 _ ⟨HGl0.out.pass (l := []) HS.out⟩ ⟨Sep.start _⟩ HA5162).mono ?_
    rintro e_ w5163 ⟨rfl, hS⟩
    replace HS : Aside0 (Sep FF w [b3 g5129 t5126.1 t5126.2.1 t5126.2.2.1 t5151.1 t5126.2.2.2.2.1 t5126.2.2.2.2.2.1 t5126.2.2.2.2.2.2.1, b16 g5014 g4998, b14 g4998 g5000 a5008 a5009 a5010 a5011, b13 g5000 A5003 l5002.length n5005 t5151.2.1, r7 A5003 l5002.length n5005 t5151.2.2, b2 g5016 a5017] w5163) := ⟨HS.out.call hS⟩
    clear hS
    by_cases c5164 : t5161.2 = 0
    · have H := if_yes c5164 H
      have c5164b0 : (t5161.2 == 0) = true := beq_iff_eq.mpr c5164
      have c5164b1 : (t5161.2 != 0) = false := bne_eq_false_iff_eq.mpr c5164
      clear c5164
      replace HS : Aside0 (Sep FF w [b16 g5014 g4998, b14 g4998 g5000 a5008 a5009 a5010 a5011, b13 g5000 A5003 l5002.length n5005 t5151.2.1, r7 A5003 l5002.length n5005 t5151.2.2, b2 g5016 a5017] w5163) := ⟨HS.out.sub (.cons _ (.cons_cons _ (.cons_cons _ (.cons_cons _ (.cons_cons _ (.cons_cons _ .slnil))))))⟩
      go_wp2_with fail
      replace HS : Aside0 (Sep FF w [r7 A5003 l5002.length n5005 t5151.2.2, b16 g5014 g4998, b14 g4998 g5000 a5008 a5009 a5010 a5011, b13 g5000 A5003 l5002.length n5005 t5151.2.1, b2 g5016 a5017] w5163) := ⟨HS.out.front 3 (by simp)⟩
      replace HS : Aside0 (Sep FF w [b13 g5000 A5003 l5002.length n5005 t5151.2.1, r7 A5003 l5002.length n5005 t5151.2.2, b16 g5014 g4998, b14 g4998 g5000 a5008 a5009 a5010 a5011, b2 g5016 a5017] w5163) := ⟨HS.out.front 3 (by simp)⟩
      replace HS : Aside0 (Sep FF w [b14 g4998 g5000 a5008 a5009 a5010 a5011, b13 g5000 A5003 l5002.length n5005 t5151.2.1, r7 A5003 l5002.length n5005 t5151.2.2, b16 g5014 g4998, b2 g5016 a5017] w5163) := ⟨HS.out.front 3 (by simp)⟩
      obtain ⟨t5165, HA5166, H⟩ := bind_some H
      refine (ground_Ground_SetWord.calls t5151.2.2 t5151.2.1 a5008 a5009 a5010 a5011 (wrap64 (a5012 - 1)) 0 t5161.1 g4998 g5000 A5003 l5002.length n5005 t5165 _ ⟨HGl0.out.pass HS.out⟩ ⟨HS.out.begin⟩ HA5166).mono ?_
      rintro e_ w5167 ⟨rfl, hS⟩
      replace HS : Aside0 (Sep FF w [b14 g4998 g5000 a5008 a5009 a5010 a5011, b13 g5000 A5003 l5002.length n5005 t5165.2.1, r7 A5003 l5002.length n5005 t5165.2.2, b16 g5014 g4998, b2 g5016 a5017] w5167) := ⟨HS.out.call hS⟩
      clear hS
      go_wp2_with fail
      go_ret
      rw [← some_eq H]
      exact ⟨(by first | rfl | (simp [IntKind.wrap_u32]; done)), HS.out⟩
    · have H := if_no c5164 H
      have c5164b0 : (t5161.2 == 0) = false := beq_eq_false_iff_ne.mpr c5164
      have c5164b1 : (t5161.2 != 0) = true := bne_iff_ne.mpr c5164
      clear c5164
      replace HS : Aside0 (Sep FF w [b16 g5014 g4998, b14 g4998 g5000 a5008 a5009 a5010 a5011, b13 g5000 A5003 l5002.length n5005 t5151.2.1, r7 A5003 l5002.length n5005 t5151.2.2, b2 g5016 a5017] w5163) := ⟨HS.out.sub (.cons _ (.cons_cons _ (.cons_cons _ (.cons_cons _ (.cons_cons _ (.cons_cons _ .slnil))))))⟩
      go_wp2_with fail
      go_ret
      rw [← some_eq H]
      exact ⟨(by first | rfl | (simp [IntKind.wrap_u32]; done)), ((((((HS.out).front 4 (by simp)).front 1 (by simp)).front 4 (by simp)).front 4 (by simp)).front 4 (by simp)).keep (l := [b14 g4998 g5000 a5008 a5009 a5010 a5011, b13 g5000 A5003 l5002.length n5005 t5151.2.1, r7 A5003 l5002.length n5005 t5151.2.2, b16 g5014 g4998, b2 g5016 a5017]) (rest := [])⟩
  · have H := if_no c5147 H
    have c5147b0 : t5126.2.2.2.2.2.2.2.1 = false := by simpa using c5147
    have c5147b1 : (!t5126.2.2.2.2.2.2.2.1) = true := by rw [c5147b0]; rfl
    try rw [c5147b1]
    clear c5147
    go_wp2_with (first | ((with_reducible refine gate_dst (N := 7) rfl ?_); refine box_on ?hg (N := 7) ?hd (cs := #[.int .i64 0, .int .i64 0, .int .i64 0, .int .i64 0, .int .i64 0, .int .i64 0, .int .i64 0]) (t := 79) ?hr ?_; (case hd => rfl); (case hg => rfl); (case hr => first | (go_simp; done) | (go_simp; rfl)); intro g5129 hg w5130 hbox hb; replace HS : Aside0 (Sep FF w [b14 g4998 g5000 a5008 a5009 a5010 a5011, b13 g5000 A5003 l5002.length n5005 t5126.2.2.2.2.2.2.2.2, r7 A5003 l5002.length n5005 l5002, b16 g5014 g4998, b2 g5016 a5017, b3 g5129 0 0 0 0 0 0 0] w5130) := ⟨HS.out.box hg hbox hb⟩; clear hg hbox hb; have hc5132 : w5130.cell? ⟨g5129, 0, none⟩ = some (.int .i64 0) := blk_cellv (HS.out.at5) 0 rfl; have hz5133 : w5130.frozen? ⟨g5129, 0, none⟩ = false := blk_fz (HS.out.at5) 0; have hc5134 : w5130.cell? ⟨g5129, 1, none⟩ = some (.int .i64 0) := blk_cellv (HS.out.at5) 1 rfl; have hz5135 : w5130.frozen? ⟨g5129, 1, none⟩ = false := blk_fz (HS.out.at5) 1; have hc5136 : w5130.cell? ⟨g5129, 2, none⟩ = some (.int .i64 0) := blk_cellv (HS.out.at5) 2 rfl; have hz5137 : w5130.frozen? ⟨g5129, 2, none⟩ = false := blk_fz (HS.out.at5) 2; have hc5138 : w5130.cell? ⟨g5129, 3, none⟩ = some (.int .i64 0) := blk_cellv (HS.out.at5) 3 rfl; have hz5139 : w5130.frozen? ⟨g5129, 3, none⟩ = false := blk_fz (HS.out.at5) 3; have hc5140 : w5130.cell? ⟨g5129, 4, none⟩ = some (.int .i64 0) := blk_cellv (HS.out.at5) 4 rfl; have hz5141 : w5130.frozen? ⟨g5129, 4, none⟩ = false := blk_fz (HS.out.at5) 4; have hc5142 : w5130.cell? ⟨g5129, 5, none⟩ = some (.int .i64 0) := blk_cellv (HS.out.at5) 5 rfl; have hz5143 : w5130.frozen? ⟨g5129, 5, none⟩ = false := blk_fz (HS.out.at5) 5; have hc5144 : w5130.cell? ⟨g5129, 6, none⟩ = some (.int .i64 0) := blk_cellv (HS.out.at5) 6 rfl; have hz5145 : w5130.frozen? ⟨g5129, 6, none⟩ = false := blk_fz (HS.out.at5) 6) | ((with_reducible refine gate_store (t := 79) (p := 7) rfl ?_); refine store_event (w1 := (World.setCell (World.setCell (World.setCell (World.setCell (World.setCell (World.setCell (World.setCell w5130 ⟨g5129, 0, none⟩ (.int .i64 t5126.1)) ⟨g5129, 1, none⟩ (.int .i64 t5126.2.1)) ⟨g5129, 2, none⟩ (.int .i64 t5126.2.2.1)) ⟨g5129, 3, none⟩ (.int .i64 t5126.2.2.2.1)) ⟨g5129, 4, none⟩ (.int .i64 t5126.2.2.2.2.1)) ⟨g5129, 5, none⟩ (.int .i64 t5126.2.2.2.2.2.1)) ⟨g5129, 6, none⟩ (.int .i64 t5126.2.2.2.2.2.2.1))) rfl (t := 79) (p := 7) rfl rfl ?hr ?_; (case hr => first | (go_simp; done) | (go_simp; rfl)); intro w5146 hst; clear hc5132 hz5133 hc5134 hz5135 hc5136 hz5137 hc5138 hz5139 hc5140 hz5141 hc5142 hz5143 hc5144 hz5145; replace HS : Aside0 (Sep FF w [b14 g4998 g5000 a5008 a5009 a5010 a5011, b13 g5000 A5003 l5002.length n5005 t5126.2.2.2.2.2.2.2.2, r7 A5003 l5002.length n5005 l5002, b16 g5014 g4998, b2 g5016 a5017, b3 g5129 t5126.1 t5126.2.1 t5126.2.2.1 t5126.2.2.2.1 t5126.2.2.2.2.1 t5126.2.2.2.2.2.1 t5126.2.2.2.2.2.2.1] w5146) := ⟨by rw [hst]; exact HS.out.setAll (l1 := [b14 g4998 g5000 a5008 a5009 a5010 a5011, b13 g5000 A5003 l5002.length n5005 t5126.2.2.2.2.2.2.2.2, r7 A5003 l5002.length n5005 l5002, b16 g5014 g4998, b2 g5016 a5017]) (l2 := []) [.int .i64 t5126.1, .int .i64 t5126.2.1, .int .i64 t5126.2.2.1, .int .i64 t5126.2.2.2.1, .int .i64 t5126.2.2.2.2.1, .int .i64 t5126.2.2.2.2.2.1, .int .i64 t5126.2.2.2.2.2.2.1] rfl⟩; clear hst; replace HS : Aside0 (Sep FF w [b14 g4998 g5000 a5008 a5009 a5010 a5011, b13 g5000 A5003 l5002.length n5005 t5126.2.2.2.2.2.2.2.2, r7 A5003 l5002.length n5005 l5002, b16 g5014 g4998, b2 g5016 a5017] w5146) := ⟨HS.out.sub (.cons_cons _ (.cons_cons _ (.cons_cons _ (.cons_cons _ (.cons_cons _ (.cons _ .slnil))))))⟩))
    go_ret
    rw [← some_eq H]
    exact ⟨(by first | rfl | (simp [IntKind.wrap_u32]; done)), HS.out⟩

set_option maxHeartbeats 30000000 in
set_option maxRecDepth 100000 in
theorem tint_Deepen.calls (k : Nat) (l4978 : List Int) (a4983 : Int) (a4984 : Int) (a4985 : Int) (a4986 : Int) (a4987 : Int) (a4988 : Int) (g4974 : Nat) (g4976 : Nat) (A4979 : Option Addr) (m4980 : Nat) (n4981 : Nat) (r : Bool × Int × List Int) (w : World)  (HGl0 : Aside0 (Gl 0 #[.int .i64 0, .int .i64 0, .int .i64 0, .int .i64 0, .int .i64 0] (fps [b14 g4974 g4976 a4984 a4985 a4986 a4987, b13 g4976 A4979 m4980 n4981 a4983, r7 A4979 m4980 n4981 l4978]) w)) (HS : Aside0 (Sep (fps [b14 g4974 g4976 a4984 a4985 a4986 a4987, b13 g4976 A4979 m4980 n4981 a4983, r7 A4979 m4980 n4981 l4978]) w [b14 g4974 g4976 a4984 a4985 a4986 a4987, b13 g4976 A4979 m4980 n4981 a4983, r7 A4979 m4980 n4981 l4978] w)) (H : Aside0 (tint_Deepen.f k l4978 a4983 a4984 a4985 a4986 a4987 a4988 = some r)) :
    Calls Tryz.prog 14 #[.pointer (some ⟨g4974, 0, none⟩), .int .i64 a4988] w fun e w' => e = .returned (.bool r.1) ∧ Sep (fps [b14 g4974 g4976 a4984 a4985 a4986 a4987, b13 g4976 A4979 m4980 n4981 a4983, r7 A4979 m4980 n4981 l4978]) w [b14 g4974 g4976 a4984 a4985 a4986 a4987, b13 g4976 A4979 m4980 n4981 r.2.1, r7 A4979 m4980 n4981 r.2.2] w' := by
  generalize (fps [b14 g4974 g4976 a4984 a4985 a4986 a4987, b13 g4976 A4979 m4980 n4981 a4983, r7 A4979 m4980 n4981 l4978]) = FF at HS HGl0 ⊢
  obtain rfl := (row_len (HS.out.at2)).symm
  unfold tint_Deepen.f at H
  go_enter Tryz.func14, Tryz.ntmps14
  go_wp2_with (first | ((with_reducible refine gate_dst (N := 2) rfl ?_); refine box_on ?hg (N := 2) ?hd (cs := #[.pointer (some ⟨g4974, 0, none⟩)]) (t := 24) ?hr ?_; (case hd => rfl); (case hg => rfl); (case hr => first | (go_simp; done) | (go_simp; rfl)); intro g5171 hg w5172 hbox hb; replace HS : Aside0 (Sep FF w [b14 g4974 g4976 a4984 a4985 a4986 a4987, b13 g4976 A4979 l4978.length n4981 a4983, r7 A4979 l4978.length n4981 l4978, b16 g5171 g4974] w5172) := ⟨HS.out.box hg hbox hb⟩; clear hg hbox hb) | ((with_reducible refine gate_dst (N := 3) rfl ?_); refine box_on ?hg (N := 3) ?hd (cs := #[.int .i64 a4988]) (t := 3) ?hr ?_; (case hd => rfl); (case hg => rfl); (case hr => first | (go_simp; done) | (go_simp; rfl)); intro g5174 hg w5175 hbox hb; replace HS : Aside0 (Sep FF w [b14 g4974 g4976 a4984 a4985 a4986 a4987, b13 g4976 A4979 l4978.length n4981 a4983, r7 A4979 l4978.length n4981 l4978, b16 g5171 g4974, b2 g5174 a4988] w5175) := ⟨HS.out.box hg hbox hb⟩; clear hg hbox hb; have hc5177 : w5175.cell? ⟨g5171, 0, none⟩ = some (.pointer (some ⟨g4974, 0, none⟩)) := blk_cellv (HS.out.at3) 0 rfl; have hc5178 : w5175.cell? ⟨g5174, 0, none⟩ = some (.int .i64 a4988) := blk_cellv (HS.out.at4) 0 rfl))
  clear hc5177 hc5178
  obtain ⟨t5179, HA5180, H⟩ := bind_some H
  refine (tint_change_F54.calls _ l4978 a4983 a4984 a4985 a4986 a4987 a4988 a4988 g4974 g4976 A4979 l4978.length n4981 g5171 g5174 t5179 _ ⟨HGl0.out.pass HS.out⟩ ⟨HS.out.begin⟩ HA5180).mono ?_
  rintro e_ w5181 ⟨rfl, hS⟩
  replace HS : Aside0 (Sep FF w [b14 g4974 g4976 a4984 a4985 a4986 a4987, b13 g4976 A4979 l4978.length n4981 t5179.2.1, r7 A4979 l4978.length n4981 t5179.2.2, b16 g5171 g4974, b2 g5174 a4988] w5181) := ⟨HS.out.call hS⟩
  clear hS
  replace HS : Aside0 (Sep FF w [b14 g4974 g4976 a4984 a4985 a4986 a4987, b13 g4976 A4979 l4978.length n4981 t5179.2.1, r7 A4979 l4978.length n4981 t5179.2.2] w5181) := ⟨HS.out.sub (.cons_cons _ (.cons_cons _ (.cons_cons _ (.cons _ (.cons _ .slnil)))))⟩
  go_wp2_with fail
  go_ret
  rw [← some_eq H]
  exact ⟨(by first | rfl | (simp [IntKind.wrap_u32]; done)), HS.out⟩

set_option maxHeartbeats 30000000 in
set_option maxRecDepth 100000 in
theorem tint_Phase.calls (l5209 : List Int) (a5214 : Int) (a5215 : Int) (a5216 : Int) (a5217 : Int) (a5218 : Int) (g5205 : Nat) (g5207 : Nat) (A5210 : Option Addr) (m5211 : Nat) (n5212 : Nat) (r : Int × Int) (w : World)  (HGl0 : Aside0 (Gl 0 #[.int .i64 0, .int .i64 0, .int .i64 0, .int .i64 0, .int .i64 0] (fps [b14 g5205 g5207 a5215 a5216 a5217 a5218, b13 g5207 A5210 m5211 n5212 a5214, r7 A5210 m5211 n5212 l5209]) w)) (HS : Aside0 (Sep (fps [b14 g5205 g5207 a5215 a5216 a5217 a5218, b13 g5207 A5210 m5211 n5212 a5214, r7 A5210 m5211 n5212 l5209]) w [b14 g5205 g5207 a5215 a5216 a5217 a5218, b13 g5207 A5210 m5211 n5212 a5214, r7 A5210 m5211 n5212 l5209] w)) (H : Aside0 (tint_Phase.f l5209 a5214 a5215 a5216 a5217 a5218 = some r)) :
    Calls Tryz.prog 22 #[.pointer (some ⟨g5205, 0, none⟩)] w fun e w' => e = .returned (.int .i64 r.1) ∧ Sep (fps [b14 g5205 g5207 a5215 a5216 a5217 a5218, b13 g5207 A5210 m5211 n5212 a5214, r7 A5210 m5211 n5212 l5209]) w [b14 g5205 g5207 a5215 a5216 a5217 a5218, b13 g5207 A5210 m5211 n5212 r.2, r7 A5210 m5211 n5212 l5209] w' := by
  generalize (fps [b14 g5205 g5207 a5215 a5216 a5217 a5218, b13 g5207 A5210 m5211 n5212 a5214, r7 A5210 m5211 n5212 l5209]) = FF at HS HGl0 ⊢
  obtain rfl := (row_len (HS.out.at2)).symm
  unfold tint_Phase.f at H
  go_enter Tryz.func22, Tryz.ntmps22
  go_wp2_with fail
  obtain ⟨t5222, HA5223, H⟩ := bind_some H
  refine (ground_Ground_Reg.calls l5209 a5214 a5215 a5216 a5217 a5218 11 g5205 g5207 A5210 l5209.length n5212 t5222 _ ⟨HGl0.out.pass HS.out⟩ ⟨HS.out.begin⟩ HA5223).mono ?_
  rintro e_ w5224 ⟨rfl, hS⟩
  replace HS : Aside0 (Sep FF w [b14 g5205 g5207 a5215 a5216 a5217 a5218, b13 g5207 A5210 l5209.length n5212 t5222.2, r7 A5210 l5209.length n5212 l5209] w5224) := ⟨HS.out.call hS⟩
  clear hS
  go_wp2_with fail
  go_ret
  rw [← some_eq H]
  exact ⟨(by first | rfl | (simp [IntKind.wrap_u32]; done)), HS.out⟩

set_option maxHeartbeats 30000000 in
set_option maxRecDepth 100000 in
theorem obj_in.calls (l5262 : List Int) (a5267 : Int) (a5268 : Int) (a5269 : Int) (a5270 : Int) (a5271 : Int) (a5272 : Int) (g5258 : Nat) (g5260 : Nat) (A5263 : Option Addr) (m5264 : Nat) (n5265 : Nat) (r : Bool) (w : World)  (HGl0 : Aside0 (Gl 0 #[.int .i64 0, .int .i64 0, .int .i64 0, .int .i64 0, .int .i64 0] (fps [b14 g5258 g5260 a5268 a5269 a5270 a5271, b13 g5260 A5263 m5264 n5265 a5267, r7 A5263 m5264 n5265 l5262]) w)) (HS : Aside0 (Sep (fps [b14 g5258 g5260 a5268 a5269 a5270 a5271, b13 g5260 A5263 m5264 n5265 a5267, r7 A5263 m5264 n5265 l5262]) w [b14 g5258 g5260 a5268 a5269 a5270 a5271, b13 g5260 A5263 m5264 n5265 a5267, r7 A5263 m5264 n5265 l5262] w)) (H : Aside0 (obj_in.f l5262 a5267 a5268 a5269 a5270 a5271 a5272 = some r)) :
    Calls Tryz.prog 112 #[.pointer (some ⟨g5258, 0, none⟩), .int .i64 a5272] w fun e w' => e = .returned (.bool r) ∧ Sep (fps [b14 g5258 g5260 a5268 a5269 a5270 a5271, b13 g5260 A5263 m5264 n5265 a5267, r7 A5263 m5264 n5265 l5262]) w [b14 g5258 g5260 a5268 a5269 a5270 a5271, b13 g5260 A5263 m5264 n5265 a5267, r7 A5263 m5264 n5265 l5262] w' := by
  generalize (fps [b14 g5258 g5260 a5268 a5269 a5270 a5271, b13 g5260 A5263 m5264 n5265 a5267, r7 A5263 m5264 n5265 l5262]) = FF at HS HGl0 ⊢
  obtain rfl := (row_len (HS.out.at2)).symm
  unfold obj_in.f at H
  go_enter Tryz.func112, Tryz.ntmps112
  by_cases c5273 : a5272 > 0
  · have H := if_yes c5273 H
    have c5273b0 : decide (0 < a5272) = true := decide_eq_true c5273
    clear c5273
    go_wp2_with fail
    obtain ⟨t5274, HA5275, H⟩ := bind_some H
    refine (ground_Ground_Conf.calls l5262 a5267 a5268 a5269 a5270 a5271 g5258 g5260 A5263 l5262.length n5265 t5274 _ ⟨HGl0.out.pass HS.out⟩ ⟨HS.out.begin⟩ HA5275).mono ?_
    rintro e_ w5276 ⟨rfl, hS⟩
    replace HS : Aside0 (Sep FF w [b14 g5258 g5260 a5268 a5269 a5270 a5271, b13 g5260 A5263 l5262.length n5265 a5267, r7 A5263 l5262.length n5265 l5262] w5276) := ⟨HS.out.call hS⟩
    clear hS
    have fl5277 : ∀ w, (Instr.field 29 (.agg #[.int .i64 t5274.1, .int .i64 t5274.2.1, .int .i64 t5274.2.2.1, .int .i64 t5274.2.2.2]) 0).run Tryz.prog w = .ok (.int .i64 t5274.1) w := fun _ => by kernel_rfl
    go_wp2_with fail
    clear fl5277
    go_ret
    rw [← some_eq H]
    exact ⟨(by first | rfl | (simp [IntKind.wrap_u32]; done)), HS.out⟩
  · have H := if_no c5273 H
    have c5273b0 : decide (0 < a5272) = false := decide_eq_false c5273
    clear c5273
    go_wp2_with fail
    go_ret
    rw [← some_eq H]
    exact ⟨(by first | rfl | (simp [IntKind.wrap_u32]; done)), HS.out⟩

set_option maxHeartbeats 30000000 in
set_option maxRecDepth 100000 in
theorem obj_Is.calls (l5246 : List Int) (a5251 : Int) (a5252 : Int) (a5253 : Int) (a5254 : Int) (a5255 : Int) (a5256 : Int) (g5242 : Nat) (g5244 : Nat) (A5247 : Option Addr) (m5248 : Nat) (n5249 : Nat) (r : Bool × Int) (w : World)  (HGl0 : Aside0 (Gl 0 #[.int .i64 0, .int .i64 0, .int .i64 0, .int .i64 0, .int .i64 0] (fps [b14 g5242 g5244 a5252 a5253 a5254 a5255, b13 g5244 A5247 m5248 n5249 a5251, r7 A5247 m5248 n5249 l5246]) w)) (HS : Aside0 (Sep (fps [b14 g5242 g5244 a5252 a5253 a5254 a5255, b13 g5244 A5247 m5248 n5249 a5251, r7 A5247 m5248 n5249 l5246]) w [b14 g5242 g5244 a5252 a5253 a5254 a5255, b13 g5244 A5247 m5248 n5249 a5251, r7 A5247 m5248 n5249 l5246] w)) (H : Aside0 (obj_Is.f l5246 a5251 a5252 a5253 a5254 a5255 a5256 = some r)) :
    Calls Tryz.prog 61 #[.pointer (some ⟨g5242, 0, none⟩), .int .i64 a5256] w fun e w' => e = .returned (.bool r.1) ∧ Sep (fps [b14 g5242 g5244 a5252 a5253 a5254 a5255, b13 g5244 A5247 m5248 n5249 a5251, r7 A5247 m5248 n5249 l5246]) w [b14 g5242 g5244 a5252 a5253 a5254 a5255, b13 g5244 A5247 m5248 n5249 r.2, r7 A5247 m5248 n5249 l5246] w' := by
  generalize (fps [b14 g5242 g5244 a5252 a5253 a5254 a5255, b13 g5244 A5247 m5248 n5249 a5251, r7 A5247 m5248 n5249 l5246]) = FF at HS HGl0 ⊢
  obtain rfl := (row_len (HS.out.at2)).symm
  unfold obj_Is.f at H
  go_enter Tryz.func61, Tryz.ntmps61
  go_wp2_with fail
  obtain ⟨t5292, HA5293, H⟩ := bind_some H
  refine (obj_in.calls l5246 a5251 a5252 a5253 a5254 a5255 a5256 g5242 g5244 A5247 l5246.length n5249 t5292 _ ⟨HGl0.out.pass HS.out⟩ ⟨HS.out.begin⟩ HA5293).mono ?_
  rintro e_ w5294 ⟨rfl, hS⟩
  replace HS : Aside0 (Sep FF w [b14 g5242 g5244 a5252 a5253 a5254 a5255, b13 g5244 A5247 l5246.length n5249 a5251, r7 A5247 l5246.length n5249 l5246] w5294) := ⟨HS.out.call hS⟩
  clear hS
  by_cases c5295 : t5292 = true
  · have H := if_yes c5295 H
    have c5295b0 : t5292 = true := c5295
    have c5295b1 : (!t5292) = false := by rw [c5295b0]; rfl
    clear c5295
    go_wp2_with fail
    obtain ⟨t5296, HA5297, H⟩ := bind_some H
    refine (ground_Ground_Word.calls l5246 a5251 a5252 a5253 a5254 a5255 (wrap64 (a5256 - 1)) 0 g5242 g5244 A5247 l5246.length n5249 t5296 _ ⟨HGl0.out.pass HS.out⟩ ⟨HS.out.begin⟩ HA5297).mono ?_
    rintro e_ w5298 ⟨rfl, hS⟩
    replace HS : Aside0 (Sep FF w [b14 g5242 g5244 a5252 a5253 a5254 a5255, b13 g5244 A5247 l5246.length n5249 t5296.2, r7 A5247 l5246.length n5249 l5246] w5298) := ⟨HS.out.call hS⟩
    clear hS
    go_wp2_with fail
    obtain ⟨t5299, HA5300, H⟩ := bind_some H
    refine (tag_Unpack.calls t5296.1 t5299 _ ⟨HGl0.out.pass (l := []) HS.out⟩ ⟨Sep.start _⟩ HA5300).mono ?_
    rintro e_ w5301 ⟨rfl, hS⟩
    replace HS : Aside0 (Sep FF w [b14 g5242 g5244 a5252 a5253 a5254 a5255, b13 g5244 A5247 l5246.length n5249 t5296.2, r7 A5247 l5246.length n5249 l5246] w5301) := ⟨HS.out.call hS⟩
    clear hS
    have fl5302 : ∀ w, (Instr.field 79 (.agg #[.int .i64 t5299.1, .int .i64 t5299.2.1, .int .i64 t5299.2.2.1, .int .i64 t5299.2.2.2.1, .int .i64 t5299.2.2.2.2.1, .int .i64 t5299.2.2.2.2.2.1, .int .i64 t5299.2.2.2.2.2.2]) 0).run Tryz.prog w = .ok (.int .i64 t5299.1) w := fun _ => by kernel_rfl
    go_wp2_with fail
    clear fl5302
    obtain ⟨t5303, HA5304, H⟩ := bind_some H
    refine (obj_isHead.calls t5299.1 t5303 _ ⟨HGl0.out.pass (l := []) HS.out⟩ ⟨Sep.start _⟩ HA5304).mono ?_
    rintro e_ w5305 ⟨rfl, hS⟩
    replace HS : Aside0 (Sep FF w [b14 g5242 g5244 a5252 a5253 a5254 a5255, b13 g5244 A5247 l5246.length n5249 t5296.2, r7 A5247 l5246.length n5249 l5246] w5305) := ⟨HS.out.call hS⟩
    clear hS
    go_wp2_with fail
    go_ret
    rw [← some_eq H]
    exact ⟨(by first | rfl | (simp [IntKind.wrap_u32]; done)), HS.out⟩
  · have H := if_no c5295 H
    have c5295b0 : t5292 = false := by simpa using c5295
    have c5295b1 : (!t5292) = true := by rw [c5295b0]; rfl
    clear c5295
    go_wp2_with fail
    go_ret
    rw [← some_eq H]
    exact ⟨(by first | rfl | (simp [IntKind.wrap_u32]; done)), HS.out⟩

set_option maxHeartbeats 30000000 in
set_option maxRecDepth 100000 in
theorem tint_Shadow.calls (l5315 : List Int) (a5320 : Int) (a5321 : Int) (a5322 : Int) (a5323 : Int) (a5324 : Int) (a5325 : Int) (g5311 : Nat) (g5313 : Nat) (A5316 : Option Addr) (m5317 : Nat) (n5318 : Nat) (r : Int × Int) (w : World)  (HGl0 : Aside0 (Gl 0 #[.int .i64 0, .int .i64 0, .int .i64 0, .int .i64 0, .int .i64 0] (fps [b14 g5311 g5313 a5321 a5322 a5323 a5324, b13 g5313 A5316 m5317 n5318 a5320, r7 A5316 m5317 n5318 l5315]) w)) (HS : Aside0 (Sep (fps [b14 g5311 g5313 a5321 a5322 a5323 a5324, b13 g5313 A5316 m5317 n5318 a5320, r7 A5316 m5317 n5318 l5315]) w [b14 g5311 g5313 a5321 a5322 a5323 a5324, b13 g5313 A5316 m5317 n5318 a5320, r7 A5316 m5317 n5318 l5315] w)) (H : Aside0 (tint_Shadow.f l5315 a5320 a5321 a5322 a5323 a5324 a5325 = some r)) :
    Calls Tryz.prog 17 #[.pointer (some ⟨g5311, 0, none⟩), .int .i64 a5325] w fun e w' => e = .returned (.int .i64 r.1) ∧ Sep (fps [b14 g5311 g5313 a5321 a5322 a5323 a5324, b13 g5313 A5316 m5317 n5318 a5320, r7 A5316 m5317 n5318 l5315]) w [b14 g5311 g5313 a5321 a5322 a5323 a5324, b13 g5313 A5316 m5317 n5318 r.2, r7 A5316 m5317 n5318 l5315] w' := by
  generalize (fps [b14 g5311 g5313 a5321 a5322 a5323 a5324, b13 g5313 A5316 m5317 n5318 a5320, r7 A5316 m5317 n5318 l5315]) = FF at HS HGl0 ⊢
  obtain rfl := (row_len (HS.out.at2)).symm
  unfold tint_Shadow.f at H
  go_enter Tryz.func17, Tryz.ntmps17
  go_wp2_with fail
  obtain ⟨t5357, HA5358, H⟩ := bind_some H
  refine (tint_of.calls l5315 a5320 a5321 a5322 a5323 a5324 a5325 g5311 g5313 A5316 l5315.length n5318 t5357 _ ⟨HGl0.out.pass HS.out⟩ ⟨HS.out.begin⟩ HA5358).mono ?_
  rintro e_ w5359 ⟨rfl, hS⟩
  replace HS : Aside0 (Sep FF w [b14 g5311 g5313 a5321 a5322 a5323 a5324, b13 g5313 A5316 l5315.length n5318 t5357.2.2.2.2.2.2.2.2, r7 A5316 l5315.length n5318 l5315] w5359) := ⟨HS.out.call hS⟩
  clear hS
  go_wp2_with (first | ((with_reducible refine gate_dst (N := 5) rfl ?_); refine box_on ?hg (N := 5) ?hd (cs := #[.int .i64 0, .int .i64 0, .int .i64 0, .int .i64 0, .int .i64 0, .int .i64 0, .int .i64 0]) (t := 79) ?hr ?_; (case hd => rfl); (case hg => rfl); (case hr => first | (go_simp; done) | (go_simp; rfl)); intro g5360 hg w5361 hbox hb; replace HS : Aside0 (Sep FF w [b14 g5311 g5313 a5321 a5322 a5323 a5324, b13 g5313 A5316 l5315.length n5318 t5357.2.2.2.2.2.2.2.2, r7 A5316 l5315.length n5318 l5315, b3 g5360 0 0 0 0 0 0 0] w5361) := ⟨HS.out.box hg hbox hb⟩; clear hg hbox hb; have hc5363 : w5361.cell? ⟨g5360, 0, none⟩ = some (.int .i64 0) := blk_cellv (HS.out.at3) 0 rfl; have hz5364 : w5361.frozen? ⟨g5360, 0, none⟩ = false := blk_fz (HS.out.at3) 0; have hc5365 : w5361.cell? ⟨g5360, 1, none⟩ = some (.int .i64 0) := blk_cellv (HS.out.at3) 1 rfl; have hz5366 : w5361.frozen? ⟨g5360, 1, none⟩ = false := blk_fz (HS.out.at3) 1; have hc5367 : w5361.cell? ⟨g5360, 2, none⟩ = some (.int .i64 0) := blk_cellv (HS.out.at3) 2 rfl; have hz5368 : w5361.frozen? ⟨g5360, 2, none⟩ = false := blk_fz (HS.out.at3) 2; have hc5369 : w5361.cell? ⟨g5360, 3, none⟩ = some (.int .i64 0) := blk_cellv (HS.out.at3) 3 rfl; have hz5370 : w5361.frozen? ⟨g5360, 3, none⟩ = false := blk_fz (HS.out.at3) 3; have hc5371 : w5361.cell? ⟨g5360, 4, none⟩ = some (.int .i64 0) := blk_cellv (HS.out.at3) 4 rfl; have hz5372 : w5361.frozen? ⟨g5360, 4, none⟩ = false := blk_fz (HS.out.at3) 4; have hc5373 : w5361.cell? ⟨g5360, 5, none⟩ = some (.int .i64 0) := blk_cellv (HS.out.at3) 5 rfl; have hz5374 : w5361.frozen? ⟨g5360, 5, none⟩ = false := blk_fz (HS.out.at3) 5; have hc5375 : w5361.cell? ⟨g5360, 6, none⟩ = some (.int .i64 0) := blk_cellv (HS.out.at3) 6 rfl; have hz5376 : w5361.frozen? ⟨g5360, 6, none⟩ = false := blk_fz (HS.out.at3) 6) | ((with_reducible refine gate_store (t := 79) (p := 5) rfl ?_); refine store_event (w1 := (World.setCell (World.setCell (World.setCell (World.setCell (World.setCell (World.setCell (World.setCell w5361 ⟨g5360, 0, none⟩ (.int .i64 t5357.1)) ⟨g5360, 1, none⟩ (.int .i64 t5357.2.1)) ⟨g5360, 2, none⟩ (.int .i64 t5357.2.2.1)) ⟨g5360, 3, none⟩ (.int .i64 t5357.2.2.2.1)) ⟨g5360, 4, none⟩ (.int .i64 t5357.2.2.2.2.1)) ⟨g5360, 5, none⟩ (.int .i64 t5357.2.2.2.2.2.1)) ⟨g5360, 6, none⟩ (.int .i64 t5357.2.2.2.2.2.2.1))) rfl (t := 79) (p := 5) rfl rfl ?hr ?_; (case hr => first | (go_simp; done) | (go_simp; rfl)); intro w5377 hst; clear hc5363 hz5364 hc5365 hz5366 hc5367 hz5368 hc5369 hz5370 hc5371 hz5372 hc5373 hz5374 hc5375 hz5376; replace HS : Aside0 (Sep FF w [b14 g5311 g5313 a5321 a5322 a5323 a5324, b13 g5313 A5316 l5315.length n5318 t5357.2.2.2.2.2.2.2.2, r7 A5316 l5315.length n5318 l5315, b3 g5360 t5357.1 t5357.2.1 t5357.2.2.1 t5357.2.2.2.1 t5357.2.2.2.2.1 t5357.2.2.2.2.2.1 t5357.2.2.2.2.2.2.1] w5377) := ⟨by rw [hst]; exact HS.out.setAll (l1 := [b14 g5311 g5313 a5321 a5322 a5323 a5324, b13 g5313 A5316 l5315.length n5318 t5357.2.2.2.2.2.2.2.2, r7 A5316 l5315.length n5318 l5315]) (l2 := []) [.int .i64 t5357.1, .int .i64 t5357.2.1, .int .i64 t5357.2.2.1, .int .i64 t5357.2.2.2.1, .int .i64 t5357.2.2.2.2.1, .int .i64 t5357.2.2.2.2.2.1, .int .i64 t5357.2.2.2.2.2.2.1] rfl⟩; clear hst))
  refine start_ (n := 9) (S := (fun w' => w'.cell? ⟨g5360, 3, none⟩ = some (.int .i64 t5357.2.2.2.1))) (ds := []) #[false, false, false, false, false, false, false, false, false] (by kernel_rfl) rfl rfl (blk_cellv ((HS.out.drew).at3) 3 rfl) (fun hHeld => ?_)
  have HS_ := Aside0.mk HS.out.drew
  clear HS
  generalize World.drew _ = w5379 at HS_ hHeld ⊢
  have HS := HS_
  clear HS_
  refine pure_ (i := 0) (N := some 13) (v := ?_) (a' := ?_) #[true, false, false, false, false, false, false, false, false] rfl rfl (by kernel_rfl) (fun _ _ _ h => h) (Or.inl ⟨by rfl, ?_⟩) ?_ ?_
  rotate_left
  · intro w'
    go_simp
    with_reducible rfl
  rotate_left
  · simp only [Act.put, List.setIfInBounds_toArray, List.set_cons_zero, List.set_cons_succ, i64_w, i32_w]
    rfl
  refine pure_ (i := 1) (N := some 14) (v := ?_) (a' := ?_) #[true, true, false, false, false, false, false, false, false] rfl rfl (by kernel_rfl) (fun _ _ _ h => h) (Or.inl ⟨by rfl, ?_⟩) ?_ ?_
  rotate_left
  · intro w'
    go_simp
    with_reducible rfl
  rotate_left
  · simp only [Act.put, List.setIfInBounds_toArray, List.set_cons_zero, List.set_cons_succ, i64_w, i32_w]
    rfl
  refine pure_ (i := 2) (N := some 15) (v := ?_) (a' := ?_) #[true, true, true, false, false, false, false, false, false] rfl rfl (by kernel_rfl) (fun _ _ _ h => h) (Or.inl ⟨by rfl, ?_⟩) ?_ ?_
  rotate_left
  · intro w'
    go_simp
    with_reducible rfl
  rotate_left
  · simp only [Act.put, List.setIfInBounds_toArray, List.set_cons_zero, List.set_cons_succ, i64_w, i32_w]
    rfl
  by_cases c5380 : t5357.2.2.2.2.2.2.2.1 = true
  · have H := if_yes c5380 H
    have c5380b0 : t5357.2.2.2.2.2.2.2.1 = true := c5380
    have c5380b1 : (!t5357.2.2.2.2.2.2.2.1) = false := by rw [c5380b0]; rfl
    try rw [c5380b1]
    clear c5380
    try simp only [c5380b0, Bool.not_true, Bool.not_false]
    refine pure_ (i := 3) (N := some 16) (v := ?_) (a' := ?_) #[true, true, true, true, false, false, false, false, false] rfl rfl (by kernel_rfl) (fun _ _ _ h => h) (Or.inl ⟨by rfl, ?_⟩) ?_ ?_
    rotate_left
    · intro w'
      go_simp
      with_reducible rfl
    rotate_left
    · simp only [Act.put, List.setIfInBounds_toArray, List.set_cons_zero, List.set_cons_succ, i64_w, i32_w]
      rfl
    try simp only [c5380b0, Bool.not_true, Bool.not_false]
    refine pure_ (i := 5) (N := some 18) (v := ?_) (a' := ?_) #[true, true, true, true, false, true, false, false, false] rfl rfl (by kernel_rfl) (fun _ _ _ h => h) (Or.inl ⟨by rfl, ?_⟩) ?_ ?_
    rotate_left
    · intro w'
      go_simp
      with_reducible rfl
    rotate_left
    · simp only [Act.put, List.setIfInBounds_toArray, List.set_cons_zero, List.set_cons_succ, i64_w, i32_w]
      rfl
    try simp only [c5380b0, Bool.not_true, Bool.not_false]
    refine take_ (i := 4) (N := some 17) (v := ?_) (a' := ?_) #[true, true, true, true, true, true, false, false, false] rfl rfl (by kernel_rfl) (fun _ _ _ h => h) (Or.inl ⟨by rfl, ?_⟩) hHeld ?_ ?_
    rotate_left
    · rintro w' hS'
      have s0 := hS'
      go_simp
      with_reducible rfl
    rotate_left
    · simp only [Act.put, List.setIfInBounds_toArray, List.set_cons_zero, List.set_cons_succ, i64_w, i32_w]
      rfl
    try simp only [c5380b0, Bool.not_true, Bool.not_false]
    refine one_ (i := 6) (N := some 19) #[true, true, true, true, true, true, true, false, false] rfl rfl (by kernel_rfl) (by decide) (fun K hK => ?_)
    obtain ⟨t5381, HA5382, H⟩ := bind_some H
    refine goes_ Tryz.func15 (by kernel_rfl) rfl #[.pointer (some ⟨g5311, 0, none⟩)] (by rfl) rfl rfl (by (try simp only [List.map_toArray, List.map_cons, List.map_nil]); first | done | rfl) ?_
    refine (tint_Parity.calls l5315 t5357.2.2.2.2.2.2.2.2 a5321 a5322 a5323 a5324 g5311 g5313 A5316 l5315.length n5318 t5381 _ ⟨HGl0.out.pass HS.out⟩ ⟨HS.out.begin⟩ HA5382).mono ?_
    rintro e_ w5383 ⟨rfl, hS⟩
    replace HS : Aside0 (Sep FF w [b14 g5311 g5313 a5321 a5322 a5323 a5324, b13 g5313 A5316 l5315.length n5318 t5381.2, r7 A5316 l5315.length n5318 l5315, b3 g5360 t5357.1 t5357.2.1 t5357.2.2.1 t5357.2.2.2.1 t5357.2.2.2.2.1 t5357.2.2.2.2.2.1 t5357.2.2.2.2.2.2.1] w5383) := ⟨HS.out.call hS⟩
    clear hS
    refine ⟨_, rfl, ?_⟩
    refine hK.out _ _ (blk_cellv (HS.out.at3) 3 rfl) (fun hHeld => ?_)
    clear hK K
    refine norm_ (a' := ?_) ?_ ?_
    rotate_left
    · show Act.put _ (some 19) _ = _
      simp only [Act.put, List.setIfInBounds_toArray, List.set_cons_zero, List.set_cons_succ, i64_w, i32_w]
      rfl
    try simp only [c5380b0, Bool.not_true, Bool.not_false]
    refine pure_ (i := 7) (N := some 20) (v := ?_) (a' := ?_) #[true, true, true, true, true, true, true, true, false] rfl rfl (by kernel_rfl) (fun _ _ _ h => h) (Or.inl ⟨by rfl, ?_⟩) ?_ ?_
    rotate_left
    · intro w'
      go_simp
      with_reducible rfl
    rotate_left
    · simp only [Act.put, List.setIfInBounds_toArray, List.set_cons_zero, List.set_cons_succ, i64_w, i32_w]
      rfl
    refine pure_ (i := 8) (N := some 21) (v := ?_) (a' := ?_) #[true, true, true, true, true, true, true, true, true] rfl rfl (by kernel_rfl) (fun _ _ _ h => h) (Or.inl ⟨by rfl, ?_⟩) ?_ ?_
    rotate_left
    · intro w'
      go_simp
      with_reducible rfl
    rotate_left
    · simp only [Act.put, List.setIfInBounds_toArray, List.set_cons_zero, List.set_cons_succ, i64_w, i32_w]
      rfl
    refine done_ (by kernel_rfl) ?_
    by_cases c5384 : t5357.2.2.2.1 = t5381.1
    · have H := if_yes c5384 H
      have c5384b0 : (t5357.2.2.2.1 == t5381.1) = true := beq_iff_eq.mpr c5384
      have c5384b1 : (t5357.2.2.2.1 != t5381.1) = false := bne_eq_false_iff_eq.mpr c5384
      clear c5384
      replace HS : Aside0 (Sep FF w [b14 g5311 g5313 a5321 a5322 a5323 a5324, b13 g5313 A5316 l5315.length n5318 t5381.2, r7 A5316 l5315.length n5318 l5315] w5383) := ⟨HS.out.sub (.cons_cons _ (.cons_cons _ (.cons_cons _ (.cons _ .slnil))))⟩
      go_wp2_with fail
      obtain ⟨t5385, HA5386, H⟩ := bind_some H
      refine (ground_Ground_Word.calls l5315 t5381.2 a5321 a5322 a5323 a5324 (wrap64 (a5325 - 1)) 4 g5311 g5313 A5316 l5315.length n5318 t5385 _ ⟨HGl0.out.pass HS.out⟩ ⟨HS.out.begin⟩ HA5386).mono ?_
      rintro e_ w5387 ⟨rfl, hS⟩
      replace HS : Aside0 (Sep FF w [b14 g5311 g5313 a5321 a5322 a5323 a5324, b13 g5313 A5316 l5315.length n5318 t5385.2, r7 A5316 l5315.length n5318 l5315] w5387) := ⟨HS.out.call hS⟩
      clear hS
      go_wp2_with fail
      go_ret
      rw [← some_eq H]
      exact ⟨(by first | rfl | (simp [IntKind.wrap_u32]; done)), HS.out⟩
    · have H := if_no c5384 H
      have c5384b0 : (t5357.2.2.2.1 == t5381.1) = false := beq_eq_false_iff_ne.mpr c5384
      have c5384b1 : (t5357.2.2.2.1 != t5381.1) = true := bne_iff_ne.mpr c5384
      clear c5384
      replace HS : Aside0 (Sep FF w [b14 g5311 g5313 a5321 a5322 a5323 a5324, b13 g5313 A5316 l5315.length n5318 t5381.2, r7 A5316 l5315.length n5318 l5315] w5383) := ⟨HS.out.sub (.cons_cons _ (.cons_cons _ (.cons_cons _ (.cons _ .slnil))))⟩
      go_wp2_with fail
      go_ret
      rw [← some_eq H]
      exact ⟨(by first | rfl | (simp [IntKind.wrap_u32]; done)), HS.out⟩
  · have H := if_no c5380 H
    have c5380b0 : t5357.2.2.2.2.2.2.2.1 = false := by simpa using c5380
    have c5380b1 : (!t5357.2.2.2.2.2.2.2.1) = true := by rw [c5380b0]; rfl
    try rw [c5380b1]
    clear c5380
    try simp only [c5380b0, Bool.not_true, Bool.not_false]
    refine pure_ (i := 3) (N := some 16) (v := undef) (a' := ?_) #[true, true, true, true, false, false, false, false, false] rfl rfl (by kernel_rfl) (fun _ _ _ h => h) (Or.inr ⟨by rfl, rfl⟩) ?_ ?_
    rotate_left
    · simp only [Act.put, List.setIfInBounds_toArray, List.set_cons_zero, List.set_cons_succ, i64_w, i32_w]
      rfl
    try simp only [c5380b0, Bool.not_true, Bool.not_false]
    refine pure_ (i := 4) (N := some 17) (v := undef) (a' := ?_) #[true, true, true, true, true, false, false, false, false] rfl rfl (by kernel_rfl) (fun _ _ _ h => h) (Or.inr ⟨by rfl, rfl⟩) ?_ ?_
    rotate_left
    · simp only [Act.put, List.setIfInBounds_toArray, List.set_cons_zero, List.set_cons_succ, i64_w, i32_w]
      rfl
    try simp only [c5380b0, Bool.not_true, Bool.not_false]
    refine pure_ (i := 5) (N := some 18) (v := undef) (a' := ?_) #[true, true, true, true, true, true, false, false, false] rfl rfl (by kernel_rfl) (fun _ _ _ h => h) (Or.inr ⟨by rfl, rfl⟩) ?_ ?_
    rotate_left
    · simp only [Act.put, List.setIfInBounds_toArray, List.set_cons_zero, List.set_cons_succ, i64_w, i32_w]
      rfl
    try simp only [c5380b0, Bool.not_true, Bool.not_false]
    refine pure_ (i := 6) (N := some 19) (v := undef) (a' := ?_) #[true, true, true, true, true, true, true, false, false] rfl rfl (by kernel_rfl) (fun _ _ _ h => h) (Or.inr ⟨by rfl, rfl⟩) ?_ ?_
    rotate_left
    · simp only [Act.put, List.setIfInBounds_toArray, List.set_cons_zero, List.set_cons_succ, i64_w, i32_w]
      rfl
    try simp only [c5380b0, Bool.not_true, Bool.not_false]
    refine pure_ (i := 7) (N := some 20) (v := undef) (a' := ?_) #[true, true, true, true, true, true, true, true, false] rfl rfl (by kernel_rfl) (fun _ _ _ h => h) (Or.inr ⟨by rfl, rfl⟩) ?_ ?_
    rotate_left
    · simp only [Act.put, List.setIfInBounds_toArray, List.set_cons_zero, List.set_cons_succ, i64_w, i32_w]
      rfl
    refine pure_ (i := 8) (N := some 21) (v := ?_) (a' := ?_) #[true, true, true, true, true, true, true, true, true] rfl rfl (by kernel_rfl) (fun _ _ _ h => h) (Or.inl ⟨by rfl, ?_⟩) ?_ ?_
    rotate_left
    · intro w'
      go_simp
      with_reducible rfl
    rotate_left
    · simp only [Act.put, List.setIfInBounds_toArray, List.set_cons_zero, List.set_cons_succ, i64_w, i32_w]
      rfl
    refine done_ (by kernel_rfl) ?_
    replace HS : Aside0 (Sep FF w [b14 g5311 g5313 a5321 a5322 a5323 a5324, b13 g5313 A5316 l5315.length n5318 t5357.2.2.2.2.2.2.2.2, r7 A5316 l5315.length n5318 l5315] w5379) := ⟨HS.out.sub (.cons_cons _ (.cons_cons _ (.cons_cons _ (.cons _ .slnil))))⟩
    go_wp2_with fail
    go_ret
    rw [← some_eq H]
    exact ⟨(by first | rfl | (simp [IntKind.wrap_u32]; done)), HS.out⟩

set_option maxHeartbeats 30000000 in
set_option maxRecDepth 100000 in
theorem tint_Lighten.calls (l5193 : List Int) (a5198 : Int) (a5199 : Int) (a5200 : Int) (a5201 : Int) (a5202 : Int) (a5203 : Int) (g5189 : Nat) (g5191 : Nat) (A5194 : Option Addr) (m5195 : Nat) (n5196 : Nat) (r : Bool × Int × List Int) (w : World)  (HGl0 : Aside0 (Gl 0 #[.int .i64 0, .int .i64 0, .int .i64 0, .int .i64 0, .int .i64 0] (fps [b14 g5189 g5191 a5199 a5200 a5201 a5202, b13 g5191 A5194 m5195 n5196 a5198, r7 A5194 m5195 n5196 l5193]) w)) (HS : Aside0 (Sep (fps [b14 g5189 g5191 a5199 a5200 a5201 a5202, b13 g5191 A5194 m5195 n5196 a5198, r7 A5194 m5195 n5196 l5193]) w [b14 g5189 g5191 a5199 a5200 a5201 a5202, b13 g5191 A5194 m5195 n5196 a5198, r7 A5194 m5195 n5196 l5193] w)) (H : Aside0 (tint_Lighten.f l5193 a5198 a5199 a5200 a5201 a5202 a5203 = some r)) :
    Calls Tryz.prog 27 #[.pointer (some ⟨g5189, 0, none⟩), .int .i64 a5203] w fun e w' => e = .returned (.bool r.1) ∧ Sep (fps [b14 g5189 g5191 a5199 a5200 a5201 a5202, b13 g5191 A5194 m5195 n5196 a5198, r7 A5194 m5195 n5196 l5193]) w [b14 g5189 g5191 a5199 a5200 a5201 a5202, b13 g5191 A5194 m5195 n5196 r.2.1, r7 A5194 m5195 n5196 r.2.2] w' := by
  generalize (fps [b14 g5189 g5191 a5199 a5200 a5201 a5202, b13 g5191 A5194 m5195 n5196 a5198, r7 A5194 m5195 n5196 l5193]) = FF at HS HGl0 ⊢
  obtain rfl := (row_len (HS.out.at2)).symm
  unfold tint_Lighten.f at H
  go_enter Tryz.func27, Tryz.ntmps27
  go_wp2_with fail
  obtain ⟨t5395, HA5396, H⟩ := bind_some H
  refine (tint_Phase.calls l5193 a5198 a5199 a5200 a5201 a5202 g5189 g5191 A5194 l5193.length n5196 t5395 _ ⟨HGl0.out.pass HS.out⟩ ⟨HS.out.begin⟩ HA5396).mono ?_
  rintro e_ w5397 ⟨rfl, hS⟩
  replace HS : Aside0 (Sep FF w [b14 g5189 g5191 a5199 a5200 a5201 a5202, b13 g5191 A5194 l5193.length n5196 t5395.2, r7 A5194 l5193.length n5196 l5193] w5397) := ⟨HS.out.call hS⟩
  clear hS
  by_cases c5398 : t5395.1 = 1
  · have H := if_yes c5398 H
    have c5398b0 : (t5395.1 == 1) = true := beq_iff_eq.mpr c5398
    have c5398b1 : (t5395.1 != 1) = false := bne_eq_false_iff_eq.mpr c5398
    clear c5398
    go_wp2_with fail
    obtain ⟨t5399, HA5400, H⟩ := bind_some H
    refine (tint_Black.calls l5193 t5395.2 a5199 a5200 a5201 a5202 a5203 g5189 g5191 A5194 l5193.length n5196 t5399 _ ⟨HGl0.out.pass HS.out⟩ ⟨HS.out.begin⟩ HA5400).mono ?_
    rintro e_ w5401 ⟨rfl, hS⟩
    replace HS : Aside0 (Sep FF w [b14 g5189 g5191 a5199 a5200 a5201 a5202, b13 g5191 A5194 l5193.length n5196 t5399.2, r7 A5194 l5193.length n5196 l5193] w5401) := ⟨HS.out.call hS⟩
    clear hS
    by_cases c5402 : t5399.1 = true
    · have H := if_yes c5402 H
      have c5402b0 : t5399.1 = true := c5402
      have c5402b1 : (!t5399.1) = false := by rw [c5402b0]; rfl
      clear c5402
      go_wp2_with fail
      go_ret
      rw [← some_eq H]
      exact ⟨(by first | rfl | (simp [IntKind.wrap_u32]; done)), HS.out⟩
    · have H := if_no c5402 H
      have c5402b0 : t5399.1 = false := by simpa using c5402
      have c5402b1 : (!t5399.1) = true := by rw [c5402b0]; rfl
      clear c5402
      go_wp2_with fail
      obtain ⟨t5403, HA5404, H⟩ := bind_some H
      refine (obj_Is.calls l5193 t5399.2 a5199 a5200 a5201 a5202 a5203 g5189 g5191 A5194 l5193.length n5196 t5403 _ ⟨HGl0.out.pass HS.out⟩ ⟨HS.out.begin⟩ HA5404).mono ?_
      rintro e_ w5405 ⟨rfl, hS⟩
      replace HS : Aside0 (Sep FF w [b14 g5189 g5191 a5199 a5200 a5201 a5202, b13 g5191 A5194 l5193.length n5196 t5403.2, r7 A5194 l5193.length n5196 l5193] w5405) := ⟨HS.out.call hS⟩
      clear hS
      by_cases c5406 : t5403.1 = true
      · have H := if_yes c5406 H
        have c5406b0 : t5403.1 = true := c5406
        have c5406b1 : (!t5403.1) = false := by rw [c5406b0]; rfl
        try rw [c5406b1]
        clear c5406
        go_wp2_with fail
        obtain ⟨t5407, HA5408, H⟩ := bind_some H
        refine (tint_Shadow.calls l5193 t5403.2 a5199 a5200 a5201 a5202 a5203 g5189 g5191 A5194 l5193.length n5196 t5407 _ ⟨HGl0.out.pass HS.out⟩ ⟨HS.out.begin⟩ HA5408).mono ?_
        rintro e_ w5409 ⟨rfl, hS⟩
        replace HS : Aside0 (Sep FF w [b14 g5189 g5191 a5199 a5200 a5201 a5202, b13 g5191 A5194 l5193.length n5196 t5407.2, r7 A5194 l5193.length n5196 l5193] w5409) := ⟨HS.out.call hS⟩
        clear hS
        by_cases c5410 : t5407.1 > 0
        · have H := if_yes c5410 H
          have c5410b0 : decide (0 < t5407.1) = true := decide_eq_true c5410
          clear c5410
          go_wp2_with fail
          obtain ⟨t5411, HA5412, H⟩ := bind_some H
          refine (ground_Ground_SetWord.calls l5193 t5407.2 a5199 a5200 a5201 a5202 (wrap64 (a5203 - 1)) 4 ((wrap64 (t5407.1 - 1)) % 4294967296) g5189 g5191 A5194 l5193.length n5196 t5411 _ ⟨HGl0.out.pass HS.out⟩ ⟨HS.out.begin⟩ HA5412).mono ?_
          rintro e_ w5413 ⟨rfl, hS⟩
          replace HS : Aside0 (Sep FF w [b14 g5189 g5191 a5199 a5200 a5201 a5202, b13 g5191 A5194 l5193.length n5196 t5411.2.1, r7 A5194 l5193.length n5196 t5411.2.2] w5413) := ⟨HS.out.call hS⟩
          clear hS
          go_wp2_with fail
          go_ret
          rw [← some_eq H]
          exact ⟨(by first | rfl | (simp [IntKind.wrap_u32]; done)), HS.out⟩
        · have H := if_no c5410 H
          have c5410b0 : decide (0 < t5407.1) = false := decide_eq_false c5410
          clear c5410
          go_wp2_with fail
          go_ret
          rw [← some_eq H]
          exact ⟨(by first | rfl | (simp [IntKind.wrap_u32]; done)), HS.out⟩
      · have H := if_no c5406 H
        have c5406b0 : t5403.1 = false := by simpa using c5406
        have c5406b1 : (!t5403.1) = true := by rw [c5406b0]; rfl
        try rw [c5406b1]
        clear c5406
        go_wp2_with fail
        go_ret
        rw [← some_eq H]
        exact ⟨(by first | rfl | (simp [IntKind.wrap_u32]; done)), HS.out⟩
  · have H := if_no c5398 H
    have c5398b0 : (t5395.1 == 1) = false := beq_eq_false_iff_ne.mpr c5398
    have c5398b1 : (t5395.1 != 1) = true := bne_iff_ne.mpr c5398
    clear c5398
    by_cases c5414 : t5395.1 = 2
    · have H := if_yes c5414 H
      have c5414b0 : (t5395.1 == 2) = true := beq_iff_eq.mpr c5414
      have c5414b1 : (t5395.1 != 2) = false := bne_eq_false_iff_eq.mpr c5414
      clear c5414
      go_wp2_with fail
      obtain ⟨t5399, HA5415, H⟩ := bind_some H
      refine (tint_Black.calls l5193 t5395.2 a5199 a5200 a5201 a5202 a5203 g5189 g5191 A5194 l5193.length n5196 t5399 _ ⟨HGl0.out.pass HS.out⟩ ⟨HS.out.begin⟩ HA5415).mono ?_
      rintro e_ w5416 ⟨rfl, hS⟩
      replace HS : Aside0 (Sep FF w [b14 g5189 g5191 a5199 a5200 a5201 a5202, b13 g5191 A5194 l5193.length n5196 t5399.2, r7 A5194 l5193.length n5196 l5193] w5416) := ⟨HS.out.call hS⟩
      clear hS
      by_cases c5417 : t5399.1 = true
      · have H := if_yes c5417 H
        have c5417b0 : t5399.1 = true := c5417
        have c5417b1 : (!t5399.1) = false := by rw [c5417b0]; rfl
        clear c5417
        go_wp2_with fail
        go_ret
        rw [← some_eq H]
        exact ⟨(by first | rfl | (simp [IntKind.wrap_u32]; done)), HS.out⟩
      · have H := if_no c5417 H
        have c5417b0 : t5399.1 = false := by simpa using c5417
        have c5417b1 : (!t5399.1) = true := by rw [c5417b0]; rfl
        clear c5417
        go_wp2_with fail
        obtain ⟨t5403, HA5418, H⟩ := bind_some H
        refine (obj_Is.calls l5193 t5399.2 a5199 a5200 a5201 a5202 a5203 g5189 g5191 A5194 l5193.length n5196 t5403 _ ⟨HGl0.out.pass HS.out⟩ ⟨HS.out.begin⟩ HA5418).mono ?_
        rintro e_ w5419 ⟨rfl, hS⟩
        replace HS : Aside0 (Sep FF w [b14 g5189 g5191 a5199 a5200 a5201 a5202, b13 g5191 A5194 l5193.length n5196 t5403.2, r7 A5194 l5193.length n5196 l5193] w5419) := ⟨HS.out.call hS⟩
        clear hS
        by_cases c5420 : t5403.1 = true
        · have H := if_yes c5420 H
          have c5420b0 : t5403.1 = true := c5420
          have c5420b1 : (!t5403.1) = false := by rw [c5420b0]; rfl
          try rw [c5420b1]
          clear c5420
          go_wp2_with fail
          obtain ⟨t5407, HA5421, H⟩ := bind_some H
          refine (tint_Shadow.calls l5193 t5403.2 a5199 a5200 a5201 a5202 a5203 g5189 g5191 A5194 l5193.length n5196 t5407 _ ⟨HGl0.out.pass HS.out⟩ ⟨HS.out.begin⟩ HA5421).mono ?_
          rintro e_ w5422 ⟨rfl, hS⟩
          replace HS : Aside0 (Sep FF w [b14 g5189 g5191 a5199 a5200 a5201 a5202, b13 g5191 A5194 l5193.length n5196 t5407.2, r7 A5194 l5193.length n5196 l5193] w5422) := ⟨HS.out.call hS⟩
          clear hS
          by_cases c5423 : t5407.1 > 0
          · have H := if_yes c5423 H
            have c5423b0 : decide (0 < t5407.1) = true := decide_eq_true c5423
            clear c5423
            go_wp2_with fail
            obtain ⟨t5411, HA5424, H⟩ := bind_some H
            refine (ground_Ground_SetWord.calls l5193 t5407.2 a5199 a5200 a5201 a5202 (wrap64 (a5203 - 1)) 4 ((wrap64 (t5407.1 - 1)) % 4294967296) g5189 g5191 A5194 l5193.length n5196 t5411 _ ⟨HGl0.out.pass HS.out⟩ ⟨HS.out.begin⟩ HA5424).mono ?_
            rintro e_ w5425 ⟨rfl, hS⟩
            replace HS : Aside0 (Sep FF w [b14 g5189 g5191 a5199 a5200 a5201 a5202, b13 g5191 A5194 l5193.length n5196 t5411.2.1, r7 A5194 l5193.length n5196 t5411.2.2] w5425) := ⟨HS.out.call hS⟩
            clear hS
            go_wp2_with fail
            go_ret
            rw [← some_eq H]
            exact ⟨(by first | rfl | (simp [IntKind.wrap_u32]; done)), HS.out⟩
          · have H := if_no c5423 H
            have c5423b0 : decide (0 < t5407.1) = false := decide_eq_false c5423
            clear c5423
            go_wp2_with fail
            go_ret
            rw [← some_eq H]
            exact ⟨(by first | rfl | (simp [IntKind.wrap_u32]; done)), HS.out⟩
        · have H := if_no c5420 H
          have c5420b0 : t5403.1 = false := by simpa using c5420
          have c5420b1 : (!t5403.1) = true := by rw [c5420b0]; rfl
          try rw [c5420b1]
          clear c5420
          go_wp2_with fail
          go_ret
          rw [← some_eq H]
          exact ⟨(by first | rfl | (simp [IntKind.wrap_u32]; done)), HS.out⟩
    · have H := if_no c5414 H
      have c5414b0 : (t5395.1 == 2) = false := beq_eq_false_iff_ne.mpr c5414
      have c5414b1 : (t5395.1 != 2) = true := bne_iff_ne.mpr c5414
      clear c5414
      go_wp2_with fail
      go_ret
      rw [← some_eq H]
      exact ⟨(by first | rfl | (simp [IntKind.wrap_u32]; done)), HS.out⟩

set_option maxHeartbeats 30000000 in
set_option maxRecDepth 100000 in
theorem tint_change_F59.calls (k : Nat) (l5530 : List Int) (a5535 : Int) (a5536 : Int) (a5537 : Int) (a5538 : Int) (a5539 : Int) (a5540 : Int) (g5526 : Nat) (g5528 : Nat) (A5531 : Option Addr) (m5532 : Nat) (n5533 : Nat) (r : Bool × Int × List Int) (w : World)  (HGl0 : Aside0 (Gl 0 #[.int .i64 0, .int .i64 0, .int .i64 0, .int .i64 0, .int .i64 0] (fps [b14 g5526 g5528 a5536 a5537 a5538 a5539, b13 g5528 A5531 m5532 n5533 a5535, r7 A5531 m5532 n5533 l5530]) w)) (HS : Aside0 (Sep (fps [b14 g5526 g5528 a5536 a5537 a5538 a5539, b13 g5528 A5531 m5532 n5533 a5535, r7 A5531 m5532 n5533 l5530]) w [b14 g5526 g5528 a5536 a5537 a5538 a5539, b13 g5528 A5531 m5532 n5533 a5535, r7 A5531 m5532 n5533 l5530] w)) (H : Aside0 (tint_change_F59.f k l5530 a5535 a5536 a5537 a5538 a5539 a5540 = some r)) :
    Calls Tryz.prog 51 #[.pointer (some ⟨g5526, 0, none⟩), .int .i64 a5540, .func (.func 59) #[] #[]] w fun e w' => e = .returned (.bool r.1) ∧ Sep (fps [b14 g5526 g5528 a5536 a5537 a5538 a5539, b13 g5528 A5531 m5532 n5533 a5535, r7 A5531 m5532 n5533 l5530]) w [b14 g5526 g5528 a5536 a5537 a5538 a5539, b13 g5528 A5531 m5532 n5533 r.2.1, r7 A5531 m5532 n5533 r.2.2] w' := by
  generalize (fps [b14 g5526 g5528 a5536 a5537 a5538 a5539, b13 g5528 A5531 m5532 n5533 a5535, r7 A5531 m5532 n5533 l5530]) = FF at HS HGl0 ⊢
  obtain rfl := (row_len (HS.out.at2)).symm
  unfold tint_change_F59.f at H
  go_enter Tryz.func51, Tryz.ntmps51
  go_wp2_with fail
  obtain ⟨t5583, HA5584, H⟩ := bind_some H
  refine (tint_of.calls l5530 a5535 a5536 a5537 a5538 a5539 a5540 g5526 g5528 A5531 l5530.length n5533 t5583 _ ⟨HGl0.out.pass HS.out⟩ ⟨HS.out.begin⟩ HA5584).mono ?_
  rintro e_ w5585 ⟨rfl, hS⟩
  replace HS : Aside0 (Sep FF w [b14 g5526 g5528 a5536 a5537 a5538 a5539, b13 g5528 A5531 l5530.length n5533 t5583.2.2.2.2.2.2.2.2, r7 A5531 l5530.length n5533 l5530] w5585) := ⟨HS.out.call hS⟩
  clear hS
  by_cases c5604 : t5583.2.2.2.2.2.2.2.1 = true
  · have H := if_yes c5604 H
    have c5604b0 : t5583.2.2.2.2.2.2.2.1 = true := c5604
    have c5604b1 : (!t5583.2.2.2.2.2.2.2.1) = false := by rw [c5604b0]; rfl
    try rw [c5604b1]
    clear c5604
    go_wp2_with (first | ((with_reducible refine gate_dst (N := 7) rfl ?_); refine box_on ?hg (N := 7) ?hd (cs := #[.int .i64 0, .int .i64 0, .int .i64 0, .int .i64 0, .int .i64 0, .int .i64 0, .int .i64 0]) (t := 79) ?hr ?_; (case hd => rfl); (case hg => rfl); (case hr => first | (go_simp; done) | (go_simp; rfl)); intro g5586 hg w5587 hbox hb; replace HS : Aside0 (Sep FF w [b14 g5526 g5528 a5536 a5537 a5538 a5539, b13 g5528 A5531 l5530.length n5533 t5583.2.2.2.2.2.2.2.2, r7 A5531 l5530.length n5533 l5530, b3 g5586 0 0 0 0 0 0 0] w5587) := ⟨HS.out.box hg hbox hb⟩; clear hg hbox hb; have hc5589 : w5587.cell? ⟨g5586, 0, none⟩ = some (.int .i64 0) := blk_cellv (HS.out.at3) 0 rfl; have hz5590 : w5587.frozen? ⟨g5586, 0, none⟩ = false := blk_fz (HS.out.at3) 0; have hc5591 : w5587.cell? ⟨g5586, 1, none⟩ = some (.int .i64 0) := blk_cellv (HS.out.at3) 1 rfl; have hz5592 : w5587.frozen? ⟨g5586, 1, none⟩ = false := blk_fz (HS.out.at3) 1; have hc5593 : w5587.cell? ⟨g5586, 2, none⟩ = some (.int .i64 0) := blk_cellv (HS.out.at3) 2 rfl; have hz5594 : w5587.frozen? ⟨g5586, 2, none⟩ = false := blk_fz (HS.out.at3) 2; have hc5595 : w5587.cell? ⟨g5586, 3, none⟩ = some (.int .i64 0) := blk_cellv (HS.out.at3) 3 rfl; have hz5596 : w5587.frozen? ⟨g5586, 3, none⟩ = false := blk_fz (HS.out.at3) 3; have hc5597 : w5587.cell? ⟨g5586, 4, none⟩ = some (.int .i64 0) := blk_cellv (HS.out.at3) 4 rfl; have hz5598 : w5587.frozen? ⟨g5586, 4, none⟩ = false := blk_fz (HS.out.at3) 4; have hc5599 : w5587.cell? ⟨g5586, 5, none⟩ = some (.int .i64 0) := blk_cellv (HS.out.at3) 5 rfl; have hz5600 : w5587.frozen? ⟨g5586, 5, none⟩ = false := blk_fz (HS.out.at3) 5; have hc5601 : w5587.cell? ⟨g5586, 6, none⟩ = some (.int .i64 0) := blk_cellv (HS.out.at3) 6 rfl; have hz5602 : w5587.frozen? ⟨g5586, 6, none⟩ = false := blk_fz (HS.out.at3) 6) | ((with_reducible refine gate_store (t := 79) (p := 7) rfl ?_); refine store_event (w1 := (World.setCell (World.setCell (World.setCell (World.setCell (World.setCell (World.setCell (World.setCell w5587 ⟨g5586, 0, none⟩ (.int .i64 t5583.1)) ⟨g5586, 1, none⟩ (.int .i64 t5583.2.1)) ⟨g5586, 2, none⟩ (.int .i64 t5583.2.2.1)) ⟨g5586, 3, none⟩ (.int .i64 t5583.2.2.2.1)) ⟨g5586, 4, none⟩ (.int .i64 t5583.2.2.2.2.1)) ⟨g5586, 5, none⟩ (.int .i64 t5583.2.2.2.2.2.1)) ⟨g5586, 6, none⟩ (.int .i64 t5583.2.2.2.2.2.2.1))) rfl (t := 79) (p := 7) rfl rfl ?hr ?_; (case hr => first | (go_simp; done) | (go_simp; rfl)); intro w5603 hst; clear hc5589 hz5590 hc5591 hz5592 hc5593 hz5594 hc5595 hz5596 hc5597 hz5598 hc5599 hz5600 hc5601 hz5602; replace HS : Aside0 (Sep FF w [b14 g5526 g5528 a5536 a5537 a5538 a5539, b13 g5528 A5531 l5530.length n5533 t5583.2.2.2.2.2.2.2.2, r7 A5531 l5530.length n5533 l5530, b3 g5586 t5583.1 t5583.2.1 t5583.2.2.1 t5583.2.2.2.1 t5583.2.2.2.2.1 t5583.2.2.2.2.2.1 t5583.2.2.2.2.2.2.1] w5603) := ⟨by rw [hst]; exact HS.out.setAll (l1 := [b14 g5526 g5528 a5536 a5537 a5538 a5539, b13 g5528 A5531 l5530.length n5533 t5583.2.2.2.2.2.2.2.2, r7 A5531 l5530.length n5533 l5530]) (l2 := []) [.int .i64 t5583.1, .int .i64 t5583.2.1, .int .i64 t5583.2.2.1, .int .i64 t5583.2.2.2.1, .int .i64 t5583.2.2.2.2.1, .int .i64 t5583.2.2.2.2.2.1, .int .i64 t5583.2.2.2.2.2.2.1] rfl⟩; clear hst))
    obtain ⟨t5605, HA5606, H⟩ := bind_some H
    refine (tint_Parity.calls l5530 t5583.2.2.2.2.2.2.2.2 a5536 a5537 a5538 a5539 g5526 g5528 A5531 l5530.length n5533 t5605 _ ⟨HGl0.out.pass HS.out⟩ ⟨HS.out.begin⟩ HA5606).mono ?_
    rintro e_ w5607 ⟨rfl, hS⟩
    replace HS : Aside0 (Sep FF w [b14 g5526 g5528 a5536 a5537 a5538 a5539, b13 g5528 A5531 l5530.length n5533 t5605.2, r7 A5531 l5530.length n5533 l5530, b3 g5586 t5583.1 t5583.2.1 t5583.2.2.1 t5583.2.2.2.1 t5583.2.2.2.2.1 t5583.2.2.2.2.2.1 t5583.2.2.2.2.2.2.1] w5607) := ⟨HS.out.call hS⟩
    clear hS
    go_wp2_with fail
    replace HS : Aside0 (Sep FF w [b3 g5586 t5583.1 t5583.2.1 t5583.2.2.1 t5583.2.2.2.1 t5583.2.2.2.2.1 t5583.2.2.2.2.2.1 t5583.2.2.2.2.2.2.1, b14 g5526 g5528 a5536 a5537 a5538 a5539, b13 g5528 A5531 l5530.length n5533 t5605.2, r7 A5531 l5530.length n5533 l5530] w5607) := ⟨HS.out.front 3 (by simp)⟩
    obtain ⟨t5608, HA5609, H⟩ := bind_some H
    refine (tint_Paint_1.calls t5583.1 t5583.2.1 t5583.2.2.1 t5583.2.2.2.1 t5583.2.2.2.2.1 t5583.2.2.2.2.2.1 t5583.2.2.2.2.2.2.1 t5605.1 g5586 t5608 _ ⟨HGl0.out.pass HS.out⟩ ⟨HS.out.begin⟩ HA5609).mono ?_
    rintro e_ w5610 ⟨rfl, hS⟩
    replace HS : Aside0 (Sep FF w [b3 g5586 t5583.1 t5608 t5583.2.2.1 t5583.2.2.2.1 t5583.2.2.2.2.1 t5583.2.2.2.2.2.1 t5583.2.2.2.2.2.2.1, b14 g5526 g5528 a5536 a5537 a5538 a5539, b13 g5528 A5531 l5530.length n5533 t5605.2, r7 A5531 l5530.length n5533 l5530] w5610) := ⟨HS.out.call hS⟩
    clear hS
    have hc5611 : w5610.cell? ⟨g5586, 0, none⟩ = some (.int .i64 t5583.1) := blk_cellv (HS.out.at0) 0 rfl
    have hc5612 : w5610.cell? ⟨g5586, 1, none⟩ = some (.int .i64 t5608) := blk_cellv (HS.out.at0) 1 rfl
    have hc5613 : w5610.cell? ⟨g5586, 2, none⟩ = some (.int .i64 t5583.2.2.1) := blk_cellv (HS.out.at0) 2 rfl
    have hc5614 : w5610.cell? ⟨g5586, 3, none⟩ = some (.int .i64 t5583.2.2.2.1) := blk_cellv (HS.out.at0) 3 rfl
    have hc5615 : w5610.cell? ⟨g5586, 4, none⟩ = some (.int .i64 t5583.2.2.2.2.1) := blk_cellv (HS.out.at0) 4 rfl
    have hc5616 : w5610.cell? ⟨g5586, 5, none⟩ = some (.int .i64 t5583.2.2.2.2.2.1) := blk_cellv (HS.out.at0) 5 rfl
    have hc5617 : w5610.cell? ⟨g5586, 6, none⟩ = some (.int .i64 t5583.2.2.2.2.2.2.1) := blk_cellv (HS.out.at0) 6 rfl
    go_wp2_with fail
    clear hc5611 hc5612 hc5613 hc5614 hc5615 hc5616 hc5617
    obtain ⟨t5618, HA5619, H⟩ := bind_some H
    refine (tag_Pack.calls _ t5583.1 t5608 t5583.2.2.1 t5583.2.2.2.1 t5583.2.2.2.2.1 t5583.2.2.2.2.2.1 t5583.2.2.2.2.2.2.1 t5618 _ ⟨HGl0.out.pass (l := []) HS.out⟩ ⟨Sep.start _⟩ HA5619).mono ?_
    rintro e_ w5620 ⟨rfl, hS⟩
    replace HS : Aside0 (Sep FF w [b3 g5586 t5583.1 t5608 t5583.2.2.1 t5583.2.2.2.1 t5583.2.2.2.2.1 t5583.2.2.2.2.2.1 t5583.2.2.2.2.2.2.1, b14 g5526 g5528 a5536 a5537 a5538 a5539, b13 g5528 A5531 l5530.length n5533 t5605.2, r7 A5531 l5530.length n5533 l5530] w5620) := ⟨HS.out.call hS⟩
    clear hS
    by_cases c5621 : t5618.2 = 0
    · have H := if_yes c5621 H
      have c5621b0 : (t5618.2 == 0) = true := beq_iff_eq.mpr c5621
      have c5621b1 : (t5618.2 != 0) = false := bne_eq_false_iff_eq.mpr c5621
      clear c5621
      replace HS : Aside0 (Sep FF w [b14 g5526 g5528 a5536 a5537 a5538 a5539, b13 g5528 A5531 l5530.length n5533 t5605.2, r7 A5531 l5530.length n5533 l5530] w5620) := ⟨HS.out.sub (.cons _ (.cons_cons _ (.cons_cons _ (.cons_cons _ .slnil))))⟩
      go_wp2_with fail
      obtain ⟨t5622, HA5623, H⟩ := bind_some H
      refine (ground_Ground_SetWord.calls l5530 t5605.2 a5536 a5537 a5538 a5539 (wrap64 (a5540 - 1)) 0 t5618.1 g5526 g5528 A5531 l5530.length n5533 t5622 _ ⟨HGl0.out.pass HS.out⟩ ⟨HS.out.begin⟩ HA5623).mono ?_
      rintro e_ w5624 ⟨rfl, hS⟩
      replace HS : Aside0 (Sep FF w [b14 g5526 g5528 a5536 a5537 a5538 a5539, b13 g5528 A5531 l5530.length n5533 t5622.2.1, r7 A5531 l5530.length n5533 t5622.2.2] w5624) := ⟨HS.out.call hS⟩
      clear hS
      go_wp2_with fail
      go_ret
      rw [← some_eq H]
      exact ⟨(by first | rfl | (simp [IntKind.wrap_u32]; done)), HS.out⟩
    · have H := if_no c5621 H
      have c5621b0 : (t5618.2 == 0) = false := beq_eq_false_iff_ne.mpr c5621
      have c5621b1 : (t5618.2 != 0) = true := bne_iff_ne.mpr c5621
      clear c5621
      replace HS : Aside0 (Sep FF w [b14 g5526 g5528 a5536 a5537 a5538 a5539, b13 g5528 A5531 l5530.length n5533 t5605.2, r7 A5531 l5530.length n5533 l5530] w5620) := ⟨HS.out.sub (.cons _ (.cons_cons _ (.cons_cons _ (.cons_cons _ .slnil))))⟩
      go_wp2_with fail
      go_ret
      rw [← some_eq H]
      exact ⟨(by first | rfl | (simp [IntKind.wrap_u32]; done)), HS.out⟩
  · have H := if_no c5604 H
    have c5604b0 : t5583.2.2.2.2.2.2.2.1 = false := by simpa using c5604
    have c5604b1 : (!t5583.2.2.2.2.2.2.2.1) = true := by rw [c5604b0]; rfl
    try rw [c5604b1]
    clear c5604
    go_wp2_with (first | ((with_reducible refine gate_dst (N := 7) rfl ?_); refine box_on ?hg (N := 7) ?hd (cs := #[.int .i64 0, .int .i64 0, .int .i64 0, .int .i64 0, .int .i64 0, .int .i64 0, .int .i64 0]) (t := 79) ?hr ?_; (case hd => rfl); (case hg => rfl); (case hr => first | (go_simp; done) | (go_simp; rfl)); intro g5586 hg w5587 hbox hb; replace HS : Aside0 (Sep FF w [b14 g5526 g5528 a5536 a5537 a5538 a5539, b13 g5528 A5531 l5530.length n5533 t5583.2.2.2.2.2.2.2.2, r7 A5531 l5530.length n5533 l5530, b3 g5586 0 0 0 0 0 0 0] w5587) := ⟨HS.out.box hg hbox hb⟩; clear hg hbox hb; have hc5589 : w5587.cell? ⟨g5586, 0, none⟩ = some (.int .i64 0) := blk_cellv (HS.out.at3) 0 rfl; have hz5590 : w5587.frozen? ⟨g5586, 0, none⟩ = false := blk_fz (HS.out.at3) 0; have hc5591 : w5587.cell? ⟨g5586, 1, none⟩ = some (.int .i64 0) := blk_cellv (HS.out.at3) 1 rfl; have hz5592 : w5587.frozen? ⟨g5586, 1, none⟩ = false := blk_fz (HS.out.at3) 1; have hc5593 : w5587.cell? ⟨g5586, 2, none⟩ = some (.int .i64 0) := blk_cellv (HS.out.at3) 2 rfl; have hz5594 : w5587.frozen? ⟨g5586, 2, none⟩ = false := blk_fz (HS.out.at3) 2; have hc5595 : w5587.cell? ⟨g5586, 3, none⟩ = some (.int .i64 0) := blk_cellv (HS.out.at3) 3 rfl; have hz5596 : w5587.frozen? ⟨g5586, 3, none⟩ = false := blk_fz (HS.out.at3) 3; have hc5597 : w5587.cell? ⟨g5586, 4, none⟩ = some (.int .i64 0) := blk_cellv (HS.out.at3) 4 rfl; have hz5598 : w5587.frozen? ⟨g5586, 4, none⟩ = false := blk_fz (HS.out.at3) 4; have hc5599 : w5587.cell? ⟨g5586, 5, none⟩ = some (.int .i64 0) := blk_cellv (HS.out.at3) 5 rfl; have hz5600 : w5587.frozen? ⟨g5586, 5, none⟩ = false := blk_fz (HS.out.at3) 5; have hc5601 : w5587.cell? ⟨g5586, 6, none⟩ = some (.int .i64 0) := blk_cellv (HS.out.at3) 6 rfl; have hz5602 : w5587.frozen? ⟨g5586, 6, none⟩ = false := blk_fz (HS.out.at3) 6) | ((with_reducible refine gate_store (t := 79) (p := 7) rfl ?_); refine store_event (w1 := (World.setCell (World.setCell (World.setCell (World.setCell (World.setCell (World.setCell (World.setCell w5587 ⟨g5586, 0, none⟩ (.int .i64 t5583.1)) ⟨g5586, 1, none⟩ (.int .i64 t5583.2.1)) ⟨g5586, 2, none⟩ (.int .i64 t5583.2.2.1)) ⟨g5586, 3, none⟩ (.int .i64 t5583.2.2.2.1)) ⟨g5586, 4, none⟩ (.int .i64 t5583.2.2.2.2.1)) ⟨g5586, 5, none⟩ (.int .i64 t5583.2.2.2.2.2.1)) ⟨g5586, 6, none⟩ (.int .i64 t5583.2.2.2.2.2.2.1))) rfl (t := 79) (p := 7) rfl rfl ?hr ?_; (case hr => first | (go_simp; done) | (go_simp; rfl)); intro w5603 hst; clear hc5589 hz5590 hc5591 hz5592 hc5593 hz5594 hc5595 hz5596 hc5597 hz5598 hc5599 hz5600 hc5601 hz5602; replace HS : Aside0 (Sep FF w [b14 g5526 g5528 a5536 a5537 a5538 a5539, b13 g5528 A5531 l5530.length n5533 t5583.2.2.2.2.2.2.2.2, r7 A5531 l5530.length n5533 l5530, b3 g5586 t5583.1 t5583.2.1 t5583.2.2.1 t5583.2.2.2.1 t5583.2.2.2.2.1 t5583.2.2.2.2.2.1 t5583.2.2.2.2.2.2.1] w5603) := ⟨by rw [hst]; exact HS.out.setAll (l1 := [b14 g5526 g5528 a5536 a5537 a5538 a5539, b13 g5528 A5531 l5530.length n5533 t5583.2.2.2.2.2.2.2.2, r7 A5531 l5530.length n5533 l5530]) (l2 := []) [.int .i64 t5583.1, .int .i64 t5583.2.1, .int .i64 t5583.2.2.1, .int .i64 t5583.2.2.2.1, .int .i64 t5583.2.2.2.2.1, .int .i64 t5583.2.2.2.2.2.1, .int .i64 t5583.2.2.2.2.2.2.1] rfl⟩; clear hst; replace HS : Aside0 (Sep FF w [b14 g5526 g5528 a5536 a5537 a5538 a5539, b13 g5528 A5531 l5530.length n5533 t5583.2.2.2.2.2.2.2.2, r7 A5531 l5530.length n5533 l5530] w5603) := ⟨HS.out.sub (.cons_cons _ (.cons_cons _ (.cons_cons _ (.cons _ .slnil))))⟩))
    go_ret
    rw [← some_eq H]
    exact ⟨(by first | rfl | (simp [IntKind.wrap_u32]; done)), HS.out⟩

set_option maxHeartbeats 30000000 in
set_option maxRecDepth 100000 in
theorem tint_Paint.calls (k : Nat) (l5514 : List Int) (a5519 : Int) (a5520 : Int) (a5521 : Int) (a5522 : Int) (a5523 : Int) (a5524 : Int) (g5510 : Nat) (g5512 : Nat) (A5515 : Option Addr) (m5516 : Nat) (n5517 : Nat) (r : Bool × Int × List Int) (w : World)  (HGl0 : Aside0 (Gl 0 #[.int .i64 0, .int .i64 0, .int .i64 0, .int .i64 0, .int .i64 0] (fps [b14 g5510 g5512 a5520 a5521 a5522 a5523, b13 g5512 A5515 m5516 n5517 a5519, r7 A5515 m5516 n5517 l5514]) w)) (HS : Aside0 (Sep (fps [b14 g5510 g5512 a5520 a5521 a5522 a5523, b13 g5512 A5515 m5516 n5517 a5519, r7 A5515 m5516 n5517 l5514]) w [b14 g5510 g5512 a5520 a5521 a5522 a5523, b13 g5512 A5515 m5516 n5517 a5519, r7 A5515 m5516 n5517 l5514] w)) (H : Aside0 (tint_Paint.f k l5514 a5519 a5520 a5521 a5522 a5523 a5524 = some r)) :
    Calls Tryz.prog 24 #[.pointer (some ⟨g5510, 0, none⟩), .int .i64 a5524] w fun e w' => e = .returned (.bool r.1) ∧ Sep (fps [b14 g5510 g5512 a5520 a5521 a5522 a5523, b13 g5512 A5515 m5516 n5517 a5519, r7 A5515 m5516 n5517 l5514]) w [b14 g5510 g5512 a5520 a5521 a5522 a5523, b13 g5512 A5515 m5516 n5517 r.2.1, r7 A5515 m5516 n5517 r.2.2] w' := by
  generalize (fps [b14 g5510 g5512 a5520 a5521 a5522 a5523, b13 g5512 A5515 m5516 n5517 a5519, r7 A5515 m5516 n5517 l5514]) = FF at HS HGl0 ⊢
  obtain rfl := (row_len (HS.out.at2)).symm
  unfold tint_Paint.f at H
  go_enter Tryz.func24, Tryz.ntmps24
  go_wp2_with fail
  obtain ⟨t5628, HA5629, H⟩ := bind_some H
  refine (tint_change_F59.calls _ l5514 a5519 a5520 a5521 a5522 a5523 a5524 g5510 g5512 A5515 l5514.length n5517 t5628 _ ⟨HGl0.out.pass HS.out⟩ ⟨HS.out.begin⟩ HA5629).mono ?_
  rintro e_ w5630 ⟨rfl, hS⟩
  replace HS : Aside0 (Sep FF w [b14 g5510 g5512 a5520 a5521 a5522 a5523, b13 g5512 A5515 l5514.length n5517 t5628.2.1, r7 A5515 l5514.length n5517 t5628.2.2] w5630) := ⟨HS.out.call hS⟩
  clear hS
  go_wp2_with fail
  go_ret
  rw [← some_eq H]
  exact ⟨(by first | rfl | (simp [IntKind.wrap_u32]; done)), HS.out⟩

set_option maxHeartbeats 30000000 in
set_option maxRecDepth 100000 in
theorem ring_marked.calls (l5656 : List Int) (a5661 : Int) (a5662 : Int) (a5663 : Int) (a5664 : Int) (a5665 : Int) (a5666 : Int) (a5667 : Int) (g5652 : Nat) (g5654 : Nat) (A5657 : Option Addr) (m5658 : Nat) (n5659 : Nat) (r : Int × Int × Int × Int × Int × Int × Int × Bool × Int) (w : World)  (HGl0 : Aside0 (Gl 0 #[.int .i64 0, .int .i64 0, .int .i64 0, .int .i64 0, .int .i64 0] (fps [b14 g5652 g5654 a5662 a5663 a5664 a5665, b13 g5654 A5657 m5658 n5659 a5661, r7 A5657 m5658 n5659 l5656]) w)) (HS : Aside0 (Sep (fps [b14 g5652 g5654 a5662 a5663 a5664 a5665, b13 g5654 A5657 m5658 n5659 a5661, r7 A5657 m5658 n5659 l5656]) w [b14 g5652 g5654 a5662 a5663 a5664 a5665, b13 g5654 A5657 m5658 n5659 a5661, r7 A5657 m5658 n5659 l5656] w)) (H : Aside0 (ring_marked.f l5656 a5661 a5662 a5663 a5664 a5665 a5666 a5667 = some r)) :
    Calls Tryz.prog 57 #[.pointer (some ⟨g5652, 0, none⟩), .int .i64 a5666, .int .i64 a5667] w fun e w' => e = .returned (.tuple #[.agg #[.int .i64 r.1, .int .i64 r.2.1, .int .i64 r.2.2.1, .int .i64 r.2.2.2.1, .int .i64 r.2.2.2.2.1, .int .i64 r.2.2.2.2.2.1, .int .i64 r.2.2.2.2.2.2.1], .bool r.2.2.2.2.2.2.2.1]) ∧ Sep (fps [b14 g5652 g5654 a5662 a5663 a5664 a5665, b13 g5654 A5657 m5658 n5659 a5661, r7 A5657 m5658 n5659 l5656]) w [b14 g5652 g5654 a5662 a5663 a5664 a5665, b13 g5654 A5657 m5658 n5659 r.2.2.2.2.2.2.2.2, r7 A5657 m5658 n5659 l5656] w' := by
  generalize (fps [b14 g5652 g5654 a5662 a5663 a5664 a5665, b13 g5654 A5657 m5658 n5659 a5661, r7 A5657 m5658 n5659 l5656]) = FF at HS HGl0 ⊢
  obtain rfl := (row_len (HS.out.at2)).symm
  unfold ring_marked.f at H
  go_enter Tryz.func57, Tryz.ntmps57
  by_cases c5773 : a5666 < 0
  · have H := if_yes c5773 H
    have c5773b0 : decide (a5666 < 0) = true := decide_eq_true c5773
    clear c5773
    go_wp2_with (first | ((with_reducible refine gate_dst (N := 6) rfl ?_); refine box_on ?hg (N := 6) ?hd (cs := #[.int .i64 0, .int .i64 0, .int .i64 0, .int .i64 0, .int .i64 0, .int .i64 0, .int .i64 0]) (t := 79) ?hr ?_; (case hd => rfl); (case hg => rfl); (case hr => first | (go_simp; done) | (go_simp; rfl)); intro g5770 hg w5771 hbox hb; replace HS : Aside0 (Sep FF w [b14 g5652 g5654 a5662 a5663 a5664 a5665, b13 g5654 A5657 l5656.length n5659 a5661, r7 A5657 l5656.length n5659 l5656, b3 g5770 0 0 0 0 0 0 0] w5771) := ⟨HS.out.box hg hbox hb⟩; clear hg hbox hb; have hc5774 : w5771.cell? ⟨g5770, 0, none⟩ = some (.int .i64 0) := blk_cellv (HS.out.at3) 0 rfl; have hz5775 : w5771.frozen? ⟨g5770, 0, none⟩ = false := blk_fz (HS.out.at3) 0; have hc5776 : w5771.cell? ⟨g5770, 1, none⟩ = some (.int .i64 0) := blk_cellv (HS.out.at3) 1 rfl; have hz5777 : w5771.frozen? ⟨g5770, 1, none⟩ = false := blk_fz (HS.out.at3) 1; have hc5778 : w5771.cell? ⟨g5770, 2, none⟩ = some (.int .i64 0) := blk_cellv (HS.out.at3) 2 rfl; have hz5779 : w5771.frozen? ⟨g5770, 2, none⟩ = false := blk_fz (HS.out.at3) 2; have hc5780 : w5771.cell? ⟨g5770, 3, none⟩ = some (.int .i64 0) := blk_cellv (HS.out.at3) 3 rfl; have hz5781 : w5771.frozen? ⟨g5770, 3, none⟩ = false := blk_fz (HS.out.at3) 3; have hc5782 : w5771.cell? ⟨g5770, 4, none⟩ = some (.int .i64 0) := blk_cellv (HS.out.at3) 4 rfl; have hz5783 : w5771.frozen? ⟨g5770, 4, none⟩ = false := blk_fz (HS.out.at3) 4; have hc5784 : w5771.cell? ⟨g5770, 5, none⟩ = some (.int .i64 0) := blk_cellv (HS.out.at3) 5 rfl; have hz5785 : w5771.frozen? ⟨g5770, 5, none⟩ = false := blk_fz (HS.out.at3) 5; have hc5786 : w5771.cell? ⟨g5770, 6, none⟩ = some (.int .i64 0) := blk_cellv (HS.out.at3) 6 rfl; have hz5787 : w5771.frozen? ⟨g5770, 6, none⟩ = false := blk_fz (HS.out.at3) 6) | ((with_reducible refine gate_store (t := 79) (p := 6) rfl ?_); refine store_event (w1 := (World.setCell (World.setCell (World.setCell (World.setCell (World.setCell (World.setCell (World.setCell w5771 ⟨g5770, 0, none⟩ (.int .i64 0)) ⟨g5770, 1, none⟩ (.int .i64 0)) ⟨g5770, 2, none⟩ (.int .i64 0)) ⟨g5770, 3, none⟩ (.int .i64 0)) ⟨g5770, 4, none⟩ (.int .i64 0)) ⟨g5770, 5, none⟩ (.int .i64 0)) ⟨g5770, 6, none⟩ (.int .i64 0))) rfl (t := 79) (p := 6) rfl rfl ?hr ?_; (case hr => first | (go_simp; done) | (go_simp; rfl)); intro w5788 hst; clear hc5774 hz5775 hc5776 hz5777 hc5778 hz5779 hc5780 hz5781 hc5782 hz5783 hc5784 hz5785 hc5786 hz5787; replace HS : Aside0 (Sep FF w [b14 g5652 g5654 a5662 a5663 a5664 a5665, b13 g5654 A5657 l5656.length n5659 a5661, r7 A5657 l5656.length n5659 l5656, b3 g5770 0 0 0 0 0 0 0] w5788) := ⟨by rw [hst]; exact HS.out.setAll (l1 := [b14 g5652 g5654 a5662 a5663 a5664 a5665, b13 g5654 A5657 l5656.length n5659 a5661, r7 A5657 l5656.length n5659 l5656]) (l2 := []) [.int .i64 0, .int .i64 0, .int .i64 0, .int .i64 0, .int .i64 0, .int .i64 0, .int .i64 0] rfl⟩; clear hst))
    have hc5789 : w5788.cell? ⟨g5770, 0, none⟩ = some (.int .i64 0) := blk_cellv (HS.out.at3) 0 rfl
    have hc5790 : w5788.cell? ⟨g5770, 1, none⟩ = some (.int .i64 0) := blk_cellv (HS.out.at3) 1 rfl
    have hc5791 : w5788.cell? ⟨g5770, 2, none⟩ = some (.int .i64 0) := blk_cellv (HS.out.at3) 2 rfl
    have hc5792 : w5788.cell? ⟨g5770, 3, none⟩ = some (.int .i64 0) := blk_cellv (HS.out.at3) 3 rfl
    have hc5793 : w5788.cell? ⟨g5770, 4, none⟩ = some (.int .i64 0) := blk_cellv (HS.out.at3) 4 rfl
    have hc5794 : w5788.cell? ⟨g5770, 5, none⟩ = some (.int .i64 0) := blk_cellv (HS.out.at3) 5 rfl
    have hc5795 : w5788.cell? ⟨g5770, 6, none⟩ = some (.int .i64 0) := blk_cellv (HS.out.at3) 6 rfl
    refine bodyPost_ret (v := .tuple #[.agg #[.int .i64 0, .int .i64 0, .int .i64 0, .int .i64 0, .int .i64 0, .int .i64 0, .int .i64 0], .bool false]) (by simp [results, Tryz.results57, go_sem, hc5789, hc5790, hc5791, hc5792, hc5793, hc5794, hc5795]) rfl ?_
    rw [← some_eq H]
    exact ⟨(by first | rfl | (simp [IntKind.wrap_u32]; done)), HS.out.sub (.cons_cons _ (.cons_cons _ (.cons_cons _ (.cons _ .slnil))))⟩
  · have H := if_no c5773 H
    have c5773b0 : decide (a5666 < 0) = false := decide_eq_false c5773
    clear c5773
    go_wp2_with (first | ((with_reducible refine gate_dst (N := 6) rfl ?_); refine box_on ?hg (N := 6) ?hd (cs := #[.int .i64 0, .int .i64 0, .int .i64 0, .int .i64 0, .int .i64 0, .int .i64 0, .int .i64 0]) (t := 79) ?hr ?_; (case hd => rfl); (case hg => rfl); (case hr => first | (go_simp; done) | (go_simp; rfl)); intro g5770 hg w5771 hbox hb; replace HS : Aside0 (Sep FF w [b14 g5652 g5654 a5662 a5663 a5664 a5665, b13 g5654 A5657 l5656.length n5659 a5661, r7 A5657 l5656.length n5659 l5656, b3 g5770 0 0 0 0 0 0 0] w5771) := ⟨HS.out.box hg hbox hb⟩; clear hg hbox hb))
    obtain ⟨t5796, HA5797, H⟩ := bind_some H
    refine (ground_Ground_Conf.calls l5656 a5661 a5662 a5663 a5664 a5665 g5652 g5654 A5657 l5656.length n5659 t5796 _ ⟨HGl0.out.pass HS.out⟩ ⟨HS.out.begin⟩ HA5797).mono ?_
    rintro e_ w5798 ⟨rfl, hS⟩
    replace HS : Aside0 (Sep FF w [b14 g5652 g5654 a5662 a5663 a5664 a5665, b13 g5654 A5657 l5656.length n5659 a5661, r7 A5657 l5656.length n5659 l5656, b3 g5770 0 0 0 0 0 0 0] w5798) := ⟨HS.out.call hS⟩
    clear hS
    by_cases c5800 : a5666 ≥ t5796.1
    · have H := if_yes c5800 H
      have c5800b0 : decide (t5796.1 ≤ a5666) = true := decide_eq_true c5800
      clear c5800
      have fl5799 : ∀ w, (Instr.field 29 (.agg #[.int .i64 t5796.1, .int .i64 t5796.2.1, .int .i64 t5796.2.2.1, .int .i64 t5796.2.2.2]) 0).run Tryz.prog w = .ok (.int .i64 t5796.1) w := fun _ => by kernel_rfl
      have hc5801 : w5798.cell? ⟨g5770, 0, none⟩ = some (.int .i64 0) := blk_cellv (HS.out.at3) 0 rfl
      have hz5802 : w5798.frozen? ⟨g5770, 0, none⟩ = false := blk_fz (HS.out.at3) 0
      have hc5803 : w5798.cell? ⟨g5770, 1, none⟩ = some (.int .i64 0) := blk_cellv (HS.out.at3) 1 rfl
      have hz5804 : w5798.frozen? ⟨g5770, 1, none⟩ = false := blk_fz (HS.out.at3) 1
      have hc5805 : w5798.cell? ⟨g5770, 2, none⟩ = some (.int .i64 0) := blk_cellv (HS.out.at3) 2 rfl
      have hz5806 : w5798.frozen? ⟨g5770, 2, none⟩ = false := blk_fz (HS.out.at3) 2
      have hc5807 : w5798.cell? ⟨g5770, 3, none⟩ = some (.int .i64 0) := blk_cellv (HS.out.at3) 3 rfl
      have hz5808 : w5798.frozen? ⟨g5770, 3, none⟩ = false := blk_fz (HS.out.at3) 3
      have hc5809 : w5798.cell? ⟨g5770, 4, none⟩ = some (.int .i64 0) := blk_cellv (HS.out.at3) 4 rfl
      have hz5810 : w5798.frozen? ⟨g5770, 4, none⟩ = false := blk_fz (HS.out.at3) 4
      have hc5811 : w5798.cell? ⟨g5770, 5, none⟩ = some (.int .i64 0) := blk_cellv (HS.out.at3) 5 rfl
      have hz5812 : w5798.frozen? ⟨g5770, 5, none⟩ = false := blk_fz (HS.out.at3) 5
      have hc5813 : w5798.cell? ⟨g5770, 6, none⟩ = some (.int .i64 0) := blk_cellv (HS.out.at3) 6 rfl
      have hz5814 : w5798.frozen? ⟨g5770, 6, none⟩ = false := blk_fz (HS.out.at3) 6
      go_wp2_with (first | ((with_reducible refine gate_store (t := 79) (p := 6) rfl ?_); refine store_event (w1 := (World.setCell (World.setCell (World.setCell (World.setCell (World.setCell (World.setCell (World.setCell w5798 ⟨g5770, 0, none⟩ (.int .i64 0)) ⟨g5770, 1, none⟩ (.int .i64 0)) ⟨g5770, 2, none⟩ (.int .i64 0)) ⟨g5770, 3, none⟩ (.int .i64 0)) ⟨g5770, 4, none⟩ (.int .i64 0)) ⟨g5770, 5, none⟩ (.int .i64 0)) ⟨g5770, 6, none⟩ (.int .i64 0))) rfl (t := 79) (p := 6) rfl rfl ?hr ?_; (case hr => first | (go_simp; done) | (go_simp; rfl)); intro w5815 hst; clear fl5799 hc5801 hz5802 hc5803 hz5804 hc5805 hz5806 hc5807 hz5808 hc5809 hz5810 hc5811 hz5812 hc5813 hz5814; replace HS : Aside0 (Sep FF w [b14 g5652 g5654 a5662 a5663 a5664 a5665, b13 g5654 A5657 l5656.length n5659 a5661, r7 A5657 l5656.length n5659 l5656, b3 g5770 0 0 0 0 0 0 0] w5815) := ⟨by rw [hst]; exact HS.out.setAll (l1 := [b14 g5652 g5654 a5662 a5663 a5664 a5665, b13 g5654 A5657 l5656.length n5659 a5661, r7 A5657 l5656.length n5659 l5656]) (l2 := []) [.int .i64 0, .int .i64 0, .int .i64 0, .int .i64 0, .int .i64 0, .int .i64 0, .int .i64 0] rfl⟩; clear hst))
      have hc5816 : w5815.cell? ⟨g5770, 0, none⟩ = some (.int .i64 0) := blk_cellv (HS.out.at3) 0 rfl
      have hc5817 : w5815.cell? ⟨g5770, 1, none⟩ = some (.int .i64 0) := blk_cellv (HS.out.at3) 1 rfl
      have hc5818 : w5815.cell? ⟨g5770, 2, none⟩ = some (.int .i64 0) := blk_cellv (HS.out.at3) 2 rfl
      have hc5819 : w5815.cell? ⟨g5770, 3, none⟩ = some (.int .i64 0) := blk_cellv (HS.out.at3) 3 rfl
      have hc5820 : w5815.cell? ⟨g5770, 4, none⟩ = some (.int .i64 0) := blk_cellv (HS.out.at3) 4 rfl
      have hc5821 : w5815.cell? ⟨g5770, 5, none⟩ = some (.int .i64 0) := blk_cellv (HS.out.at3) 5 rfl
      have hc5822 : w5815.cell? ⟨g5770, 6, none⟩ = some (.int .i64 0) := blk_cellv (HS.out.at3) 6 rfl
      refine bodyPost_ret (v := .tuple #[.agg #[.int .i64 0, .int .i64 0, .int .i64 0, .int .i64 0, .int .i64 0, .int .i64 0, .int .i64 0], .bool false]) (by simp [results, Tryz.results57, go_sem, hc5816, hc5817, hc5818, hc5819, hc5820, hc5821, hc5822]) rfl ?_
      rw [← some_eq H]
      exact ⟨(by first | rfl | (simp [IntKind.wrap_u32]; done)), HS.out.sub (.cons_cons _ (.cons_cons _ (.cons_cons _ (.cons _ .slnil))))⟩
    · have H := if_no c5800 H
      have c5800b0 : decide (t5796.1 ≤ a5666) = false := decide_eq_false c5800
      clear c5800
      have fl5799 : ∀ w, (Instr.field 29 (.agg #[.int .i64 t5796.1, .int .i64 t5796.2.1, .int .i64 t5796.2.2.1, .int .i64 t5796.2.2.2]) 0).run Tryz.prog w = .ok (.int .i64 t5796.1) w := fun _ => by kernel_rfl
      go_wp2_with fail
      clear fl5799
      obtain ⟨t5823, HA5824, H⟩ := bind_some H
      refine (ground_Ground_Word.calls l5656 a5661 a5662 a5663 a5664 a5665 a5666 0 g5652 g5654 A5657 l5656.length n5659 t5823 _ ⟨HGl0.out.pass HS.out⟩ ⟨HS.out.begin⟩ HA5824).mono ?_
      rintro e_ w5825 ⟨rfl, hS⟩
      replace HS : Aside0 (Sep FF w [b14 g5652 g5654 a5662 a5663 a5664 a5665, b13 g5654 A5657 l5656.length n5659 t5823.2, r7 A5657 l5656.length n5659 l5656, b3 g5770 0 0 0 0 0 0 0] w5825) := ⟨HS.out.call hS⟩
      clear hS
      go_wp2_with fail
      obtain ⟨t5826, HA5827, H⟩ := bind_some H
      refine (tag_Unpack.calls t5823.1 t5826 _ ⟨HGl0.out.pass (l := []) HS.out⟩ ⟨Sep.start _⟩ HA5827).mono ?_
      rintro e_ w5828 ⟨rfl, hS⟩
      replace HS : Aside0 (Sep FF w [b14 g5652 g5654 a5662 a5663 a5664 a5665, b13 g5654 A5657 l5656.length n5659 t5823.2, r7 A5657 l5656.length n5659 l5656, b3 g5770 0 0 0 0 0 0 0] w5828) := ⟨HS.out.call hS⟩
      clear hS
      go_wp2_with (first | ((with_reducible refine gate_dst (N := 8) rfl ?_); refine box_on ?hg (N := 8) ?hd (cs := #[.int .i64 0, .int .i64 0, .int .i64 0, .int .i64 0, .int .i64 0, .int .i64 0, .int .i64 0]) (t := 79) ?hr ?_; (case hd => rfl); (case hg => rfl); (case hr => first | (go_simp; done) | (go_simp; rfl)); intro g5829 hg w5830 hbox hb; replace HS : Aside0 (Sep FF w [b14 g5652 g5654 a5662 a5663 a5664 a5665, b13 g5654 A5657 l5656.length n5659 t5823.2, r7 A5657 l5656.length n5659 l5656, b3 g5770 0 0 0 0 0 0 0, b3 g5829 0 0 0 0 0 0 0] w5830) := ⟨HS.out.box hg hbox hb⟩; clear hg hbox hb; have hc5832 : w5830.cell? ⟨g5829, 0, none⟩ = some (.int .i64 0) := blk_cellv (HS.out.at4) 0 rfl; have hz5833 : w5830.frozen? ⟨g5829, 0, none⟩ = false := blk_fz (HS.out.at4) 0; have hc5834 : w5830.cell? ⟨g5829, 1, none⟩ = some (.int .i64 0) := blk_cellv (HS.out.at4) 1 rfl; have hz5835 : w5830.frozen? ⟨g5829, 1, none⟩ = false := blk_fz (HS.out.at4) 1; have hc5836 : w5830.cell? ⟨g5829, 2, none⟩ = some (.int .i64 0) := blk_cellv (HS.out.at4) 2 rfl; have hz5837 : w5830.frozen? ⟨g5829, 2, none⟩ = false := blk_fz (HS.out.at4) 2; have hc5838 : w5830.cell? ⟨g5829, 3, none⟩ = some (.int .i64 0) := blk_cellv (HS.out.at4) 3 rfl; have hz5839 : w5830.frozen? ⟨g5829, 3, none⟩ = false := blk_fz (HS.out.at4) 3; have hc5840 : w5830.cell? ⟨g5829, 4, none⟩ = some (.int .i64 0) := blk_cellv (HS.out.at4) 4 rfl; have hz5841 : w5830.frozen? ⟨g5829, 4, none⟩ = false := blk_fz (HS.out.at4) 4; have hc5842 : w5830.cell? ⟨g5829, 5, none⟩ = some (.int .i64 0) := blk_cellv (HS.out.at4) 5 rfl; have hz5843 : w5830.frozen? ⟨g5829, 5, none⟩ = false := blk_fz (HS.out.at4) 5; have hc5844 : w5830.cell? ⟨g5829, 6, none⟩ = some (.int .i64 0) := blk_cellv (HS.out.at4) 6 rfl; have hz5845 : w5830.frozen? ⟨g5829, 6, none⟩ = false := blk_fz (HS.out.at4) 6) | ((with_reducible refine gate_store (t := 79) (p := 8) rfl ?_); refine store_event (w1 := (World.setCell (World.setCell (World.setCell (World.setCell (World.setCell (World.setCell (World.setCell w5830 ⟨g5829, 0, none⟩ (.int .i64 t5826.1)) ⟨g5829, 1, none⟩ (.int .i64 t5826.2.1)) ⟨g5829, 2, none⟩ (.int .i64 t5826.2.2.1)) ⟨g5829, 3, none⟩ (.int .i64 t5826.2.2.2.1)) ⟨g5829, 4, none⟩ (.int .i64 t5826.2.2.2.2.1)) ⟨g5829, 5, none⟩ (.int .i64 t5826.2.2.2.2.2.1)) ⟨g5829, 6, none⟩ (.int .i64 t5826.2.2.2.2.2.2))) rfl (t := 79) (p := 8) rfl rfl ?hr ?_; (case hr => first | (go_simp; done) | (go_simp; rfl)); intro w5846 hst; clear hc5832 hz5833 hc5834 hz5835 hc5836 hz5837 hc5838 hz5839 hc5840 hz5841 hc5842 hz5843 hc5844 hz5845; replace HS : Aside0 (Sep FF w [b14 g5652 g5654 a5662 a5663 a5664 a5665, b13 g5654 A5657 l5656.length n5659 t5823.2, r7 A5657 l5656.length n5659 l5656, b3 g5770 0 0 0 0 0 0 0, b3 g5829 t5826.1 t5826.2.1 t5826.2.2.1 t5826.2.2.2.1 t5826.2.2.2.2.1 t5826.2.2.2.2.2.1 t5826.2.2.2.2.2.2] w5846) := ⟨by rw [hst]; exact HS.out.setAll (l1 := [b14 g5652 g5654 a5662 a5663 a5664 a5665, b13 g5654 A5657 l5656.length n5659 t5823.2, r7 A5657 l5656.length n5659 l5656, b3 g5770 0 0 0 0 0 0 0]) (l2 := []) [.int .i64 t5826.1, .int .i64 t5826.2.1, .int .i64 t5826.2.2.1, .int .i64 t5826.2.2.2.1, .int .i64 t5826.2.2.2.2.1, .int .i64 t5826.2.2.2.2.2.1, .int .i64 t5826.2.2.2.2.2.2] rfl⟩; clear hst))
      refine start_ (n := 17) (S := (fun w' => w'.cell? ⟨g5829, 0, none⟩ = some (.int .i64 t5826.1) ∧ w'.cell? ⟨g5829, 1, none⟩ = some (.int .i64 t5826.2.1) ∧ w'.cell? ⟨g5829, 2, none⟩ = some (.int .i64 t5826.2.2.1) ∧ w'.cell? ⟨g5829, 3, none⟩ = some (.int .i64 t5826.2.2.2.1) ∧ w'.cell? ⟨g5829, 4, none⟩ = some (.int .i64 t5826.2.2.2.2.1) ∧ w'.cell? ⟨g5829, 5, none⟩ = some (.int .i64 t5826.2.2.2.2.2.1) ∧ w'.cell? ⟨g5829, 6, none⟩ = some (.int .i64 t5826.2.2.2.2.2.2))) (ds := []) #[false, false, false, false, false, false, false, false, false, false, false, false, false, false, false, false, false] (by kernel_rfl) rfl rfl (⟨blk_cellv ((HS.out.drew).at4) 0 rfl, blk_cellv ((HS.out.drew).at4) 1 rfl, blk_cellv ((HS.out.drew).at4) 2 rfl, blk_cellv ((HS.out.drew).at4) 3 rfl, blk_cellv ((HS.out.drew).at4) 4 rfl, blk_cellv ((HS.out.drew).at4) 5 rfl, blk_cellv ((HS.out.drew).at4) 6 rfl⟩) (fun hHeld => ?_)
      have HS_ := Aside0.mk HS.out.drew
      clear HS
      generalize World.drew _ = w5848 at HS_ hHeld ⊢
      have HS := HS_
      clear HS_
      refine pure_ (i := 1) (N := some 28) (v := ?_) (a' := ?_) #[false, true, false, false, false, false, false, false, false, false, false, false, false, false, false, false, false] rfl rfl (by kernel_rfl) (fun _ _ _ h => h) (Or.inl ⟨by rfl, ?_⟩) ?_ ?_
      rotate_left
      · intro w'
        go_simp
        with_reducible rfl
      rotate_left
      · simp only [Act.put, List.setIfInBounds_toArray, List.set_cons_zero, List.set_cons_succ, i64_w, i32_w]
        rfl
      refine take_ (i := 0) (N := some 27) (v := ?_) (a' := ?_) #[true, true, false, false, false, false, false, false, false, false, false, false, false, false, false, false, false] rfl rfl (by kernel_rfl) (fun _ _ _ h => h) (Or.inl ⟨by rfl, ?_⟩) hHeld ?_ ?_
      rotate_left
      · rintro w' hS'
        obtain ⟨s0, s1, s2, s3, s4, s5, s6⟩ := hS'
        go_simp
        with_reducible rfl
      rotate_left
      · simp only [Act.put, List.setIfInBounds_toArray, List.set_cons_zero, List.set_cons_succ, i64_w, i32_w]
        rfl
      refine take_ (i := 2) (N := some 29) (v := ?_) (a' := ?_) #[true, true, true, false, false, false, false, false, false, false, false, false, false, false, false, false, false] rfl rfl (by kernel_rfl) (fun _ _ _ h => h) (Or.inl ⟨by rfl, ?_⟩) hHeld ?_ ?_
      rotate_left
      · rintro w' hS'
        obtain ⟨s0, s1, s2, s3, s4, s5, s6⟩ := hS'
        go_simp
        with_reducible rfl
      rotate_left
      · simp only [Act.put, List.setIfInBounds_toArray, List.set_cons_zero, List.set_cons_succ, i64_w, i32_w]
        rfl
      refine pure_ (i := 3) (N := some 30) (v := ?_) (a' := ?_) #[true, true, true, true, false, false, false, false, false, false, false, false, false, false, false, false, false] rfl rfl (by kernel_rfl) (fun _ _ _ h => h) (Or.inl ⟨by rfl, ?_⟩) ?_ ?_
      rotate_left
      · intro w'
        go_simp
        with_reducible rfl
      rotate_left
      · simp only [Act.put, List.setIfInBounds_toArray, List.set_cons_zero, List.set_cons_succ, i64_w, i32_w]
        rfl
      refine pure_ (i := 4) (N := some 31) (v := ?_) (a' := ?_) #[true, true, true, true, true, false, false, false, false, false, false, false, false, false, false, false, false] rfl rfl (by kernel_rfl) (fun _ _ _ h => h) (Or.inl ⟨by rfl, ?_⟩) ?_ ?_
      rotate_left
      · intro w'
        go_simp
        with_reducible rfl
      rotate_left
      · simp only [Act.put, List.setIfInBounds_toArray, List.set_cons_zero, List.set_cons_succ, i64_w, i32_w]
        rfl
      by_cases c5849 : t5826.1 = 1
      · have H := if_yes c5849 H
        have c5849b0 : (t5826.1 == 1) = true := beq_iff_eq.mpr c5849
        have c5849b1 : (t5826.1 != 1) = false := bne_eq_false_iff_eq.mpr c5849
        clear c5849
        try simp only [c5849b0, Bool.not_true, Bool.not_false]
        refine pure_ (i := 5) (N := some 32) (v := undef) (a' := ?_) #[true, true, true, true, true, true, false, false, false, false, false, false, false, false, false, false, false] rfl rfl (by kernel_rfl) (fun _ _ _ h => h) (Or.inr ⟨by rfl, rfl⟩) ?_ ?_
        rotate_left
        · simp only [Act.put, List.setIfInBounds_toArray, List.set_cons_zero, List.set_cons_succ, i64_w, i32_w]
          rfl
        try simp only [c5849b0, Bool.not_true, Bool.not_false]
        refine pure_ (i := 6) (N := some 33) (v := undef) (a' := ?_) #[true, true, true, true, true, true, true, false, false, false, false, false, false, false, false, false, false] rfl rfl (by kernel_rfl) (fun _ _ _ h => h) (Or.inr ⟨by rfl, rfl⟩) ?_ ?_
        rotate_left
        · simp only [Act.put, List.setIfInBounds_toArray, List.set_cons_zero, List.set_cons_succ, i64_w, i32_w]
          rfl
        try simp only [c5849b0, Bool.not_true, Bool.not_false]
        refine pure_ (i := 7) (N := some 34) (v := undef) (a' := ?_) #[true, true, true, true, true, true, true, true, false, false, false, false, false, false, false, false, false] rfl rfl (by kernel_rfl) (fun _ _ _ h => h) (Or.inr ⟨by rfl, rfl⟩) ?_ ?_
        rotate_left
        · simp only [Act.put, List.setIfInBounds_toArray, List.set_cons_zero, List.set_cons_succ, i64_w, i32_w]
          rfl
        refine pure_ (i := 8) (N := some 35) (v := ?_) (a' := ?_) #[true, true, true, true, true, true, true, true, true, false, false, false, false, false, false, false, false] rfl rfl (by kernel_rfl) (fun _ _ _ h => h) (Or.inl ⟨by rfl, ?_⟩) ?_ ?_
        rotate_left
        · intro w'
          go_simp
          with_reducible rfl
        rotate_left
        · simp only [Act.put, List.setIfInBounds_toArray, List.set_cons_zero, List.set_cons_succ, i64_w, i32_w]
          rfl
        refine pure_ (i := 9) (N := some 36) (v := ?_) (a' := ?_) #[true, true, true, true, true, true, true, true, true, true, false, false, false, false, false, false, false] rfl rfl (by kernel_rfl) (fun _ _ _ h => h) (Or.inl ⟨by rfl, ?_⟩) ?_ ?_
        rotate_left
        · intro w'
          go_simp
          with_reducible rfl
        rotate_left
        · simp only [Act.put, List.setIfInBounds_toArray, List.set_cons_zero, List.set_cons_succ, i64_w, i32_w]
          rfl
        refine pure_ (i := 10) (N := some 37) (v := ?_) (a' := ?_) #[true, true, true, true, true, true, true, true, true, true, true, false, false, false, false, false, false] rfl rfl (by kernel_rfl) (fun _ _ _ h => h) (Or.inl ⟨by rfl, ?_⟩) ?_ ?_
        rotate_left
        · intro w'
          go_simp
          with_reducible rfl
        rotate_left
        · simp only [Act.put, List.setIfInBounds_toArray, List.set_cons_zero, List.set_cons_succ, i64_w, i32_w]
          rfl
        refine pure_ (i := 12) (N := some 39) (v := ?_) (a' := ?_) #[true, true, true, true, true, true, true, true, true, true, true, false, true, false, false, false, false] rfl rfl (by kernel_rfl) (fun _ _ _ h => h) (Or.inl ⟨by rfl, ?_⟩) ?_ ?_
        rotate_left
        · intro w'
          go_simp
          with_reducible rfl
        rotate_left
        · simp only [Act.put, List.setIfInBounds_toArray, List.set_cons_zero, List.set_cons_succ, i64_w, i32_w]
          rfl
        refine take_ (i := 11) (N := some 38) (v := ?_) (a' := ?_) #[true, true, true, true, true, true, true, true, true, true, true, true, true, false, false, false, false] rfl rfl (by kernel_rfl) (fun _ _ _ h => h) (Or.inl ⟨by rfl, ?_⟩) hHeld ?_ ?_
        rotate_left
        · rintro w' hS'
          obtain ⟨s0, s1, s2, s3, s4, s5, s6⟩ := hS'
          go_simp
          with_reducible rfl
        rotate_left
        · simp only [Act.put, List.setIfInBounds_toArray, List.set_cons_zero, List.set_cons_succ, i64_w, i32_w]
          rfl
        refine pure_ (i := 13) (N := some 40) (v := ?_) (a' := ?_) #[true, true, true, true, true, true, true, true, true, true, true, true, true, true, false, false, false] rfl rfl (by kernel_rfl) (fun _ _ _ h => h) (Or.inl ⟨by rfl, ?_⟩) ?_ ?_
        rotate_left
        · intro w'
          go_simp
          with_reducible rfl
        rotate_left
        · simp only [Act.put, List.setIfInBounds_toArray, List.set_cons_zero, List.set_cons_succ, i64_w, i32_w]
          rfl
        refine pure_ (i := 14) (N := some 41) (v := ?_) (a' := ?_) #[true, true, true, true, true, true, true, true, true, true, true, true, true, true, true, false, false] rfl rfl (by kernel_rfl) (fun _ _ _ h => h) (Or.inl ⟨by rfl, ?_⟩) ?_ ?_
        rotate_left
        · intro w'
          go_simp
          with_reducible rfl
        rotate_left
        · simp only [Act.put, List.setIfInBounds_toArray, List.set_cons_zero, List.set_cons_succ, i64_w, i32_w]
          rfl
        refine one_ (i := 15) (N := none) #[true, true, true, true, true, true, true, true, true, true, true, true, true, true, true, true, false] rfl rfl (by kernel_rfl) (by decide) (fun K hK => ?_)
        have hc5851 := blk_cellv (v := .int .i64 0) (HS.out.at3) 0 rfl
        have hz5852 := blk_fz (HS.out.at3) 0
        have hc5853 := blk_cellv (v := .int .i64 0) (HS.out.at3) 1 rfl
        have hz5854 := blk_fz (HS.out.at3) 1
        have hc5855 := blk_cellv (v := .int .i64 0) (HS.out.at3) 2 rfl
        have hz5856 := blk_fz (HS.out.at3) 2
        have hc5857 := blk_cellv (v := .int .i64 0) (HS.out.at3) 3 rfl
        have hz5858 := blk_fz (HS.out.at3) 3
        have hc5859 := blk_cellv (v := .int .i64 0) (HS.out.at3) 4 rfl
        have hz5860 := blk_fz (HS.out.at3) 4
        have hc5861 := blk_cellv (v := .int .i64 0) (HS.out.at3) 5 rfl
        have hz5862 := blk_fz (HS.out.at3) 5
        have hc5863 := blk_cellv (v := .int .i64 0) (HS.out.at3) 6 rfl
        have hz5864 := blk_fz (HS.out.at3) 6
        refine store_step (w1 := (World.setCell (World.setCell (World.setCell (World.setCell (World.setCell (World.setCell (World.setCell w5848 ⟨g5770, 0, none⟩ (.int .i64 t5826.1)) ⟨g5770, 1, none⟩ (.int .i64 t5826.2.1)) ⟨g5770, 2, none⟩ (.int .i64 t5826.2.2.1)) ⟨g5770, 3, none⟩ (.int .i64 t5826.2.2.2.1)) ⟨g5770, 4, none⟩ (.int .i64 t5826.2.2.2.2.1)) ⟨g5770, 5, none⟩ (.int .i64 t5826.2.2.2.2.2.1)) ⟨g5770, 6, none⟩ (.int .i64 t5826.2.2.2.2.2.2))) (by rfl) rfl ?hr ?_
        case hr => first | (go_simp; done) | (go_simp; rfl)
        clear hc5851 hz5852 hc5853 hz5854 hc5855 hz5856 hc5857 hz5858 hc5859 hz5860 hc5861 hz5862 hc5863 hz5864
        intro w5850 hst
        replace HS : Aside0 (Sep FF w [b14 g5652 g5654 a5662 a5663 a5664 a5665, b13 g5654 A5657 l5656.length n5659 t5823.2, r7 A5657 l5656.length n5659 l5656, b3 g5770 t5826.1 t5826.2.1 t5826.2.2.1 t5826.2.2.2.1 t5826.2.2.2.2.1 t5826.2.2.2.2.2.1 t5826.2.2.2.2.2.2, b3 g5829 t5826.1 t5826.2.1 t5826.2.2.1 t5826.2.2.2.1 t5826.2.2.2.2.1 t5826.2.2.2.2.2.1 t5826.2.2.2.2.2.2] w5850) := ⟨by rw [hst]; exact HS.out.setAll (l1 := [b14 g5652 g5654 a5662 a5663 a5664 a5665, b13 g5654 A5657 l5656.length n5659 t5823.2, r7 A5657 l5656.length n5659 l5656]) (l2 := [b3 g5829 t5826.1 t5826.2.1 t5826.2.2.1 t5826.2.2.2.1 t5826.2.2.2.2.1 t5826.2.2.2.2.2.1 t5826.2.2.2.2.2.2]) [.int .i64 t5826.1, .int .i64 t5826.2.1, .int .i64 t5826.2.2.1, .int .i64 t5826.2.2.2.1, .int .i64 t5826.2.2.2.2.1, .int .i64 t5826.2.2.2.2.2.1, .int .i64 t5826.2.2.2.2.2.2] rfl⟩
        clear hst
        refine hK.out _ _ (⟨blk_cellv (HS.out.at4) 0 rfl, blk_cellv (HS.out.at4) 1 rfl, blk_cellv (HS.out.at4) 2 rfl, blk_cellv (HS.out.at4) 3 rfl, blk_cellv (HS.out.at4) 4 rfl, blk_cellv (HS.out.at4) 5 rfl, blk_cellv (HS.out.at4) 6 rfl⟩) (fun hHeld => ?_)
        clear hK K
        refine pure_ (i := 16) (N := some 7) (v := ?_) (a' := ?_) #[true, true, true, true, true, true, true, true, true, true, true, true, true, true, true, true, true] rfl rfl (by kernel_rfl) (fun _ _ _ h => h) (Or.inl ⟨by rfl, ?_⟩) ?_ ?_
        rotate_left
        · intro w'
          go_simp
          with_reducible rfl
        rotate_left
        · simp only [Act.put, List.setIfInBounds_toArray, List.set_cons_zero, List.set_cons_succ, i64_w, i32_w]
          rfl
        refine done_ (by kernel_rfl) ?_
        replace HS : Aside0 (Sep FF w [b14 g5652 g5654 a5662 a5663 a5664 a5665, b13 g5654 A5657 l5656.length n5659 t5823.2, r7 A5657 l5656.length n5659 l5656, b3 g5770 t5826.1 t5826.2.1 t5826.2.2.1 t5826.2.2.2.1 t5826.2.2.2.2.1 t5826.2.2.2.2.2.1 t5826.2.2.2.2.2.2] w5850) := ⟨HS.out.sub (.cons_cons _ (.cons_cons _ (.cons_cons _ (.cons_cons _ (.cons _ .slnil)))))⟩
        go_wp2_with fail
        have hc5865 : w5850.cell? ⟨g5770, 0, none⟩ = some (.int .i64 t5826.1) := blk_cellv (HS.out.at3) 0 rfl
        have hc5866 : w5850.cell? ⟨g5770, 1, none⟩ = some (.int .i64 t5826.2.1) := blk_cellv (HS.out.at3) 1 rfl
        have hc5867 : w5850.cell? ⟨g5770, 2, none⟩ = some (.int .i64 t5826.2.2.1) := blk_cellv (HS.out.at3) 2 rfl
        have hc5868 : w5850.cell? ⟨g5770, 3, none⟩ = some (.int .i64 t5826.2.2.2.1) := blk_cellv (HS.out.at3) 3 rfl
        have hc5869 : w5850.cell? ⟨g5770, 4, none⟩ = some (.int .i64 t5826.2.2.2.2.1) := blk_cellv (HS.out.at3) 4 rfl
        have hc5870 : w5850.cell? ⟨g5770, 5, none⟩ = some (.int .i64 t5826.2.2.2.2.2.1) := blk_cellv (HS.out.at3) 5 rfl
        have hc5871 : w5850.cell? ⟨g5770, 6, none⟩ = some (.int .i64 t5826.2.2.2.2.2.2) := blk_cellv (HS.out.at3) 6 rfl
        refine bodyPost_ret (v := .tuple #[.agg #[.int .i64 t5826.1, .int .i64 t5826.2.1, .int .i64 t5826.2.2.1, .int .i64 t5826.2.2.2.1, .int .i64 t5826.2.2.2.2.1, .int .i64 t5826.2.2.2.2.2.1, .int .i64 t5826.2.2.2.2.2.2], .bool (t5826.2.2.2.2.2.1 == a5667)]) (by simp [results, Tryz.results57, go_sem, hc5865, hc5866, hc5867, hc5868, hc5869, hc5870, hc5871]) rfl ?_
        rw [← some_eq H]
        exact ⟨(by first | rfl | (simp [IntKind.wrap_u32]; done)), HS.out.sub (.cons_cons _ (.cons_cons _ (.cons_cons _ (.cons _ .slnil))))⟩
      · have H := if_no c5849 H
        have c5849b0 : (t5826.1 == 1) = false := beq_eq_false_iff_ne.mpr c5849
        have c5849b1 : (t5826.1 != 1) = true := bne_iff_ne.mpr c5849
        clear c5849
        try simp only [c5849b0, Bool.not_true, Bool.not_false]
        refine pure_ (i := 5) (N := some 32) (v := ?_) (a' := ?_) #[true, true, true, true, true, true, false, false, false, false, false, false, false, false, false, false, false] rfl rfl (by kernel_rfl) (fun _ _ _ h => h) (Or.inl ⟨by rfl, ?_⟩) ?_ ?_
        rotate_left
        · intro w'
          go_simp
          with_reducible rfl
        rotate_left
        · simp only [Act.put, List.setIfInBounds_toArray, List.set_cons_zero, List.set_cons_succ, i64_w, i32_w]
          rfl
        try simp only [c5849b0, Bool.not_true, Bool.not_false]
        refine take_ (i := 6) (N := some 33) (v := ?_) (a' := ?_) #[true, true, true, true, true, true, true, false, false, false, false, false, false, false, false, false, false] rfl rfl (by kernel_rfl) (fun _ _ _ h => h) (Or.inl ⟨by rfl, ?_⟩) hHeld ?_ ?_
        rotate_left
        · rintro w' hS'
          obtain ⟨s0, s1, s2, s3, s4, s5, s6⟩ := hS'
          go_simp
          with_reducible rfl
        rotate_left
        · simp only [Act.put, List.setIfInBounds_toArray, List.set_cons_zero, List.set_cons_succ, i64_w, i32_w]
          rfl
        try simp only [c5849b0, Bool.not_true, Bool.not_false]
        refine pure_ (i := 7) (N := some 34) (v := ?_) (a' := ?_) #[true, true, true, true, true, true, true, true, false, false, false, false, false, false, false, false, false] rfl rfl (by kernel_rfl) (fun _ _ _ h => h) (Or.inl ⟨by rfl, ?_⟩) ?_ ?_
        rotate_left
        · intro w'
          go_simp
          with_reducible rfl
        rotate_left
        · simp only [Act.put, List.setIfInBounds_toArray, List.set_cons_zero, List.set_cons_succ, i64_w, i32_w]
          rfl
        refine pure_ (i := 8) (N := some 35) (v := ?_) (a' := ?_) #[true, true, true, true, true, true, true, true, true, false, false, false, false, false, false, false, false] rfl rfl (by kernel_rfl) (fun _ _ _ h => h) (Or.inl ⟨by rfl, ?_⟩) ?_ ?_
        rotate_left
        · intro w'
          go_simp
          with_reducible rfl
        rotate_left
        · simp only [Act.put, List.setIfInBounds_toArray, List.set_cons_zero, List.set_cons_succ, i64_w, i32_w]
          rfl
        refine pure_ (i := 9) (N := some 36) (v := ?_) (a' := ?_) #[true, true, true, true, true, true, true, true, true, true, false, false, false, false, false, false, false] rfl rfl (by kernel_rfl) (fun _ _ _ h => h) (Or.inl ⟨by rfl, ?_⟩) ?_ ?_
        rotate_left
        · intro w'
          go_simp
          with_reducible rfl
        rotate_left
        · simp only [Act.put, List.setIfInBounds_toArray, List.set_cons_zero, List.set_cons_succ, i64_w, i32_w]
          rfl
        by_cases c5872 : t5826.1 = 2
        · have H := if_yes c5872 H
          have c5872b0 : (t5826.1 == 2) = true := beq_iff_eq.mpr c5872
          have c5872b1 : (t5826.1 != 2) = false := bne_eq_false_iff_eq.mpr c5872
          clear c5872
          try simp only [c5872b0, Bool.not_true, Bool.not_false]
          refine pure_ (i := 10) (N := some 37) (v := ?_) (a' := ?_) #[true, true, true, true, true, true, true, true, true, true, true, false, false, false, false, false, false] rfl rfl (by kernel_rfl) (fun _ _ _ h => h) (Or.inl ⟨by rfl, ?_⟩) ?_ ?_
          rotate_left
          · intro w'
            go_simp
            with_reducible rfl
          rotate_left
          · simp only [Act.put, List.setIfInBounds_toArray, List.set_cons_zero, List.set_cons_succ, i64_w, i32_w]
            rfl
          try simp only [c5872b0, Bool.not_true, Bool.not_false]
          refine pure_ (i := 12) (N := some 39) (v := ?_) (a' := ?_) #[true, true, true, true, true, true, true, true, true, true, true, false, true, false, false, false, false] rfl rfl (by kernel_rfl) (fun _ _ _ h => h) (Or.inl ⟨by rfl, ?_⟩) ?_ ?_
          rotate_left
          · intro w'
            go_simp
            with_reducible rfl
          rotate_left
          · simp only [Act.put, List.setIfInBounds_toArray, List.set_cons_zero, List.set_cons_succ, i64_w, i32_w]
            rfl
          try simp only [c5872b0, Bool.not_true, Bool.not_false]
          refine take_ (i := 11) (N := some 38) (v := ?_) (a' := ?_) #[true, true, true, true, true, true, true, true, true, true, true, true, true, false, false, false, false] rfl rfl (by kernel_rfl) (fun _ _ _ h => h) (Or.inl ⟨by rfl, ?_⟩) hHeld ?_ ?_
          rotate_left
          · rintro w' hS'
            obtain ⟨s0, s1, s2, s3, s4, s5, s6⟩ := hS'
            go_simp
            with_reducible rfl
          rotate_left
          · simp only [Act.put, List.setIfInBounds_toArray, List.set_cons_zero, List.set_cons_succ, i64_w, i32_w]
            rfl
          try simp only [c5872b0, Bool.not_true, Bool.not_false]
          refine pure_ (i := 13) (N := some 40) (v := ?_) (a' := ?_) #[true, true, true, true, true, true, true, true, true, true, true, true, true, true, false, false, false] rfl rfl (by kernel_rfl) (fun _ _ _ h => h) (Or.inl ⟨by rfl, ?_⟩) ?_ ?_
          rotate_left
          · intro w'
            go_simp
            with_reducible rfl
          rotate_left
          · simp only [Act.put, List.setIfInBounds_toArray, List.set_cons_zero, List.set_cons_succ, i64_w, i32_w]
            rfl
          refine pure_ (i := 14) (N := some 41) (v := ?_) (a' := ?_) #[true, true, true, true, true, true, true, true, true, true, true, true, true, true, true, false, false] rfl rfl (by kernel_rfl) (fun _ _ _ h => h) (Or.inl ⟨by rfl, ?_⟩) ?_ ?_
          rotate_left
          · intro w'
            go_simp
            with_reducible rfl
          rotate_left
          · simp only [Act.put, List.setIfInBounds_toArray, List.set_cons_zero, List.set_cons_succ, i64_w, i32_w]
            rfl
          refine one_ (i := 15) (N := none) #[true, true, true, true, true, true, true, true, true, true, true, true, true, true, true, true, false] rfl rfl (by kernel_rfl) (by decide) (fun K hK => ?_)
          have hc5874 := blk_cellv (v := .int .i64 0) (HS.out.at3) 0 rfl
          have hz5875 := blk_fz (HS.out.at3) 0
          have hc5876 := blk_cellv (v := .int .i64 0) (HS.out.at3) 1 rfl
          have hz5877 := blk_fz (HS.out.at3) 1
          have hc5878 := blk_cellv (v := .int .i64 0) (HS.out.at3) 2 rfl
          have hz5879 := blk_fz (HS.out.at3) 2
          have hc5880 := blk_cellv (v := .int .i64 0) (HS.out.at3) 3 rfl
          have hz5881 := blk_fz (HS.out.at3) 3
          have hc5882 := blk_cellv (v := .int .i64 0) (HS.out.at3) 4 rfl
          have hz5883 := blk_fz (HS.out.at3) 4
          have hc5884 := blk_cellv (v := .int .i64 0) (HS.out.at3) 5 rfl
          have hz5885 := blk_fz (HS.out.at3) 5
          have hc5886 := blk_cellv (v := .int .i64 0) (HS.out.at3) 6 rfl
          have hz5887 := blk_fz (HS.out.at3) 6
          refine store_step (w1 := (World.setCell (World.setCell (World.setCell (World.setCell (World.setCell (World.setCell (World.setCell w5848 ⟨g5770, 0, none⟩ (.int .i64 t5826.1)) ⟨g5770, 1, none⟩ (.int .i64 t5826.2.1)) ⟨g5770, 2, none⟩ (.int .i64 t5826.2.2.1)) ⟨g5770, 3, none⟩ (.int .i64 t5826.2.2.2.1)) ⟨g5770, 4, none⟩ (.int .i64 t5826.2.2.2.2.1)) ⟨g5770, 5, none⟩ (.int .i64 t5826.2.2.2.2.2.1)) ⟨g5770, 6, none⟩ (.int .i64 t5826.2.2.2.2.2.2))) (by rfl) rfl ?hr ?_
          case hr => first | (go_simp; done) | (go_simp; rfl)
          clear hc5874 hz5875 hc5876 hz5877 hc5878 hz5879 hc5880 hz5881 hc5882 hz5883 hc5884 hz5885 hc5886 hz5887
          intro w5873 hst
          replace HS : Aside0 (Sep FF w [b14 g5652 g5654 a5662 a5663 a5664 a5665, b13 g5654 A5657 l5656.length n5659 t5823.2, r7 A5657 l5656.length n5659 l5656, b3 g5770 t5826.1 t5826.2.1 t5826.2.2.1 t5826.2.2.2.1 t5826.2.2.2.2.1 t5826.2.2.2.2.2.1 t5826.2.2.2.2.2.2, b3 g5829 t5826.1 t5826.2.1 t5826.2.2.1 t5826.2.2.2.1 t5826.2.2.2.2.1 t5826.2.2.2.2.2.1 t5826.2.2.2.2.2.2] w5873) := ⟨by rw [hst]; exact HS.out.setAll (l1 := [b14 g5652 g5654 a5662 a5663 a5664 a5665, b13 g5654 A5657 l5656.length n5659 t5823.2, r7 A5657 l5656.length n5659 l5656]) (l2 := [b3 g5829 t5826.1 t5826.2.1 t5826.2.2.1 t5826.2.2.2.1 t5826.2.2.2.2.1 t5826.2.2.2.2.2.1 t5826.2.2.2.2.2.2]) [.int .i64 t5826.1, .int .i64 t5826.2.1, .int .i64 t5826.2.2.1, .int .i64 t5826.2.2.2.1, .int .i64 t5826.2.2.2.2.1, .int .i64 t5826.2.2.2.2.2.1, .int .i64 t5826.2.2.2.2.2.2] rfl⟩
          clear hst
          refine hK.out _ _ (⟨blk_cellv (HS.out.at4) 0 rfl, blk_cellv (HS.out.at4) 1 rfl, blk_cellv (HS.out.at4) 2 rfl, blk_cellv (HS.out.at4) 3 rfl, blk_cellv (HS.out.at4) 4 rfl, blk_cellv (HS.out.at4) 5 rfl, blk_cellv (HS.out.at4) 6 rfl⟩) (fun hHeld => ?_)
          clear hK K
          refine pure_ (i := 16) (N := some 7) (v := ?_) (a' := ?_) #[true, true, true, true, true, true, true, true, true, true, true, true, true, true, true, true, true] rfl rfl (by kernel_rfl) (fun _ _ _ h => h) (Or.inl ⟨by rfl, ?_⟩) ?_ ?_
          rotate_left
          · intro w'
            go_simp
            with_reducible rfl
          rotate_left
          · simp only [Act.put, List.setIfInBounds_toArray, List.set_cons_zero, List.set_cons_succ, i64_w, i32_w]
            rfl
          refine done_ (by kernel_rfl) ?_
          replace HS : Aside0 (Sep FF w [b14 g5652 g5654 a5662 a5663 a5664 a5665, b13 g5654 A5657 l5656.length n5659 t5823.2, r7 A5657 l5656.length n5659 l5656, b3 g5770 t5826.1 t5826.2.1 t5826.2.2.1 t5826.2.2.2.1 t5826.2.2.2.2.1 t5826.2.2.2.2.2.1 t5826.2.2.2.2.2.2] w5873) := ⟨HS.out.sub (.cons_cons _ (.cons_cons _ (.cons_cons _ (.cons_cons _ (.cons _ .slnil)))))⟩
          go_wp2_with fail
          have hc5888 : w5873.cell? ⟨g5770, 0, none⟩ = some (.int .i64 t5826.1) := blk_cellv (HS.out.at3) 0 rfl
          have hc5889 : w5873.cell? ⟨g5770, 1, none⟩ = some (.int .i64 t5826.2.1) := blk_cellv (HS.out.at3) 1 rfl
          have hc5890 : w5873.cell? ⟨g5770, 2, none⟩ = some (.int .i64 t5826.2.2.1) := blk_cellv (HS.out.at3) 2 rfl
          have hc5891 : w5873.cell? ⟨g5770, 3, none⟩ = some (.int .i64 t5826.2.2.2.1) := blk_cellv (HS.out.at3) 3 rfl
          have hc5892 : w5873.cell? ⟨g5770, 4, none⟩ = some (.int .i64 t5826.2.2.2.2.1) := blk_cellv (HS.out.at3) 4 rfl
          have hc5893 : w5873.cell? ⟨g5770, 5, none⟩ = some (.int .i64 t5826.2.2.2.2.2.1) := blk_cellv (HS.out.at3) 5 rfl
          have hc5894 : w5873.cell? ⟨g5770, 6, none⟩ = some (.int .i64 t5826.2.2.2.2.2.2) := blk_cellv (HS.out.at3) 6 rfl
          refine bodyPost_ret (v := .tuple #[.agg #[.int .i64 t5826.1, .int .i64 t5826.2.1, .int .i64 t5826.2.2.1, .int .i64 t5826.2.2.2.1, .int .i64 t5826.2.2.2.2.1, .int .i64 t5826.2.2.2.2.2.1, .int .i64 t5826.2.2.2.2.2.2], .bool (t5826.2.2.2.2.2.1 == a5667)]) (by simp [results, Tryz.results57, go_sem, hc5888, hc5889, hc5890, hc5891, hc5892, hc5893, hc5894]) rfl ?_
          rw [← some_eq H]
          exact ⟨(by first | rfl | (simp [IntKind.wrap_u32]; done)), HS.out.sub (.cons_cons _ (.cons_cons _ (.cons_cons _ (.cons _ .slnil))))⟩
        · have H := if_no c5872 H
          have c5872b0 : (t5826.1 == 2) = false := beq_eq_false_iff_ne.mpr c5872
          have c5872b1 : (t5826.1 != 2) = true := bne_iff_ne.mpr c5872
          clear c5872
          try simp only [c5872b0, Bool.not_true, Bool.not_false]
          refine pure_ (i := 10) (N := some 37) (v := undef) (a' := ?_) #[true, true, true, true, true, true, true, true, true, true, true, false, false, false, false, false, false] rfl rfl (by kernel_rfl) (fun _ _ _ h => h) (Or.inr ⟨by rfl, rfl⟩) ?_ ?_
          rotate_left
          · simp only [Act.put, List.setIfInBounds_toArray, List.set_cons_zero, List.set_cons_succ, i64_w, i32_w]
            rfl
          try simp only [c5872b0, Bool.not_true, Bool.not_false]
          refine pure_ (i := 11) (N := some 38) (v := undef) (a' := ?_) #[true, true, true, true, true, true, true, true, true, true, true, true, false, false, false, false, false] rfl rfl (by kernel_rfl) (fun _ _ _ h => h) (Or.inr ⟨by rfl, rfl⟩) ?_ ?_
          rotate_left
          · simp only [Act.put, List.setIfInBounds_toArray, List.set_cons_zero, List.set_cons_succ, i64_w, i32_w]
            rfl
          try simp only [c5872b0, Bool.not_true, Bool.not_false]
          refine pure_ (i := 12) (N := some 39) (v := undef) (a' := ?_) #[true, true, true, true, true, true, true, true, true, true, true, true, true, false, false, false, false] rfl rfl (by kernel_rfl) (fun _ _ _ h => h) (Or.inr ⟨by rfl, rfl⟩) ?_ ?_
          rotate_left
          · simp only [Act.put, List.setIfInBounds_toArray, List.set_cons_zero, List.set_cons_succ, i64_w, i32_w]
            rfl
          try simp only [c5872b0, Bool.not_true, Bool.not_false]
          refine pure_ (i := 13) (N := some 40) (v := undef) (a' := ?_) #[true, true, true, true, true, true, true, true, true, true, true, true, true, true, false, false, false] rfl rfl (by kernel_rfl) (fun _ _ _ h => h) (Or.inr ⟨by rfl, rfl⟩) ?_ ?_
          rotate_left
          · simp only [Act.put, List.setIfInBounds_toArray, List.set_cons_zero, List.set_cons_succ, i64_w, i32_w]
            rfl
          refine pure_ (i := 14) (N := some 41) (v := ?_) (a' := ?_) #[true, true, true, true, true, true, true, true, true, true, true, true, true, true, true, false, false] rfl rfl (by kernel_rfl) (fun _ _ _ h => h) (Or.inl ⟨by rfl, ?_⟩) ?_ ?_
          rotate_left
          · intro w'
            go_simp
            with_reducible rfl
          rotate_left
          · simp only [Act.put, List.setIfInBounds_toArray, List.set_cons_zero, List.set_cons_succ, i64_w, i32_w]
            rfl
          refine one_ (i := 15) (N := none) #[true, true, true, true, true, true, true, true, true, true, true, true, true, true, true, true, false] rfl rfl (by kernel_rfl) (by decide) (fun K hK => ?_)
          have hc5896 := blk_cellv (v := .int .i64 0) (HS.out.at3) 0 rfl
          have hz5897 := blk_fz (HS.out.at3) 0
          have hc5898 := blk_cellv (v := .int .i64 0) (HS.out.at3) 1 rfl
          have hz5899 := blk_fz (HS.out.at3) 1
          have hc5900 := blk_cellv (v := .int .i64 0) (HS.out.at3) 2 rfl
          have hz5901 := blk_fz (HS.out.at3) 2
          have hc5902 := blk_cellv (v := .int .i64 0) (HS.out.at3) 3 rfl
          have hz5903 := blk_fz (HS.out.at3) 3
          have hc5904 := blk_cellv (v := .int .i64 0) (HS.out.at3) 4 rfl
          have hz5905 := blk_fz (HS.out.at3) 4
          have hc5906 := blk_cellv (v := .int .i64 0) (HS.out.at3) 5 rfl
          have hz5907 := blk_fz (HS.out.at3) 5
          have hc5908 := blk_cellv (v := .int .i64 0) (HS.out.at3) 6 rfl
          have hz5909 := blk_fz (HS.out.at3) 6
          refine store_step (w1 := (World.setCell (World.setCell (World.setCell (World.setCell (World.setCell (World.setCell (World.setCell w5848 ⟨g5770, 0, none⟩ (.int .i64 t5826.1)) ⟨g5770, 1, none⟩ (.int .i64 t5826.2.1)) ⟨g5770, 2, none⟩ (.int .i64 t5826.2.2.1)) ⟨g5770, 3, none⟩ (.int .i64 t5826.2.2.2.1)) ⟨g5770, 4, none⟩ (.int .i64 t5826.2.2.2.2.1)) ⟨g5770, 5, none⟩ (.int .i64 t5826.2.2.2.2.2.1)) ⟨g5770, 6, none⟩ (.int .i64 t5826.2.2.2.2.2.2))) (by rfl) rfl ?hr ?_
          case hr => first | (go_simp; done) | (go_simp; rfl)
          clear hc5896 hz5897 hc5898 hz5899 hc5900 hz5901 hc5902 hz5903 hc5904 hz5905 hc5906 hz5907 hc5908 hz5909
          intro w5895 hst
          replace HS : Aside0 (Sep FF w [b14 g5652 g5654 a5662 a5663 a5664 a5665, b13 g5654 A5657 l5656.length n5659 t5823.2, r7 A5657 l5656.length n5659 l5656, b3 g5770 t5826.1 t5826.2.1 t5826.2.2.1 t5826.2.2.2.1 t5826.2.2.2.2.1 t5826.2.2.2.2.2.1 t5826.2.2.2.2.2.2, b3 g5829 t5826.1 t5826.2.1 t5826.2.2.1 t5826.2.2.2.1 t5826.2.2.2.2.1 t5826.2.2.2.2.2.1 t5826.2.2.2.2.2.2] w5895) := ⟨by rw [hst]; exact HS.out.setAll (l1 := [b14 g5652 g5654 a5662 a5663 a5664 a5665, b13 g5654 A5657 l5656.length n5659 t5823.2, r7 A5657 l5656.length n5659 l5656]) (l2 := [b3 g5829 t5826.1 t5826.2.1 t5826.2.2.1 t5826.2.2.2.1 t5826.2.2.2.2.1 t5826.2.2.2.2.2.1 t5826.2.2.2.2.2.2]) [.int .i64 t5826.1, .int .i64 t5826.2.1, .int .i64 t5826.2.2.1, .int .i64 t5826.2.2.2.1, .int .i64 t5826.2.2.2.2.1, .int .i64 t5826.2.2.2.2.2.1, .int .i64 t5826.2.2.2.2.2.2] rfl⟩
          clear hst
          refine hK.out _ _ (⟨blk_cellv (HS.out.at4) 0 rfl, blk_cellv (HS.out.at4) 1 rfl, blk_cellv (HS.out.at4) 2 rfl, blk_cellv (HS.out.at4) 3 rfl, blk_cellv (HS.out.at4) 4 rfl, blk_cellv (HS.out.at4) 5 rfl, blk_cellv (HS.out.at4) 6 rfl⟩) (fun hHeld => ?_)
          clear hK K
          refine pure_ (i := 16) (N := some 7) (v := ?_) (a' := ?_) #[true, true, true, true, true, true, true, true, true, true, true, true, true, true, true, true, true] rfl rfl (by kernel_rfl) (fun _ _ _ h => h) (Or.inl ⟨by rfl, ?_⟩) ?_ ?_
          rotate_left
          · intro w'
            go_simp
            with_reducible rfl
          rotate_left
          · simp only [Act.put, List.setIfInBounds_toArray, List.set_cons_zero, List.set_cons_succ, i64_w, i32_w]
            rfl
          refine done_ (by kernel_rfl) ?_
          replace HS : Aside0 (Sep FF w [b14 g5652 g5654 a5662 a5663 a5664 a5665, b13 g5654 A5657 l5656.length n5659 t5823.2, r7 A5657 l5656.length n5659 l5656, b3 g5770 t5826.1 t5826.2.1 t5826.2.2.1 t5826.2.2.2.1 t5826.2.2.2.2.1 t5826.2.2.2.2.2.1 t5826.2.2.2.2.2.2] w5895) := ⟨HS.out.sub (.cons_cons _ (.cons_cons _ (.cons_cons _ (.cons_cons _ (.cons _ .slnil)))))⟩
          go_wp2_with fail
          have hc5910 : w5895.cell? ⟨g5770, 0, none⟩ = some (.int .i64 t5826.1) := blk_cellv (HS.out.at3) 0 rfl
          have hc5911 : w5895.cell? ⟨g5770, 1, none⟩ = some (.int .i64 t5826.2.1) := blk_cellv (HS.out.at3) 1 rfl
          have hc5912 : w5895.cell? ⟨g5770, 2, none⟩ = some (.int .i64 t5826.2.2.1) := blk_cellv (HS.out.at3) 2 rfl
          have hc5913 : w5895.cell? ⟨g5770, 3, none⟩ = some (.int .i64 t5826.2.2.2.1) := blk_cellv (HS.out.at3) 3 rfl
          have hc5914 : w5895.cell? ⟨g5770, 4, none⟩ = some (.int .i64 t5826.2.2.2.2.1) := blk_cellv (HS.out.at3) 4 rfl
          have hc5915 : w5895.cell? ⟨g5770, 5, none⟩ = some (.int .i64 t5826.2.2.2.2.2.1) := blk_cellv (HS.out.at3) 5 rfl
          have hc5916 : w5895.cell? ⟨g5770, 6, none⟩ = some (.int .i64 t5826.2.2.2.2.2.2) := blk_cellv (HS.out.at3) 6 rfl
          refine bodyPost_ret (v := .tuple #[.agg #[.int .i64 t5826.1, .int .i64 t5826.2.1, .int .i64 t5826.2.2.1, .int .i64 t5826.2.2.2.1, .int .i64 t5826.2.2.2.2.1, .int .i64 t5826.2.2.2.2.2.1, .int .i64 t5826.2.2.2.2.2.2], .bool false]) (by simp [results, Tryz.results57, go_sem, hc5910, hc5911, hc5912, hc5913, hc5914, hc5915, hc5916]) rfl ?_
          rw [← some_eq H]
          exact ⟨(by first | rfl | (simp [IntKind.wrap_u32]; done)), HS.out.sub (.cons_cons _ (.cons_cons _ (.cons_cons _ (.cons _ .slnil))))⟩

set_option maxHeartbeats 30000000 in
set_option maxRecDepth 100000 in
theorem ring_mark.calls (k : Nat) (l5951 : List Int) (a5956 : Int) (a5957 : Int) (a5958 : Int) (a5959 : Int) (a5960 : Int) (a5961 : Int) (a5962 : Int) (a5963 : Int) (a5964 : Int) (a5965 : Int) (a5966 : Int) (a5967 : Int) (a5968 : Int) (a5969 : Int) (g5947 : Nat) (g5949 : Nat) (A5952 : Option Addr) (m5953 : Nat) (n5954 : Nat) (r : Int × List Int) (w : World)  (HGl0 : Aside0 (Gl 0 #[.int .i64 0, .int .i64 0, .int .i64 0, .int .i64 0, .int .i64 0] (fps [b14 g5947 g5949 a5957 a5958 a5959 a5960, b13 g5949 A5952 m5953 n5954 a5956, r7 A5952 m5953 n5954 l5951]) w)) (HS : Aside0 (Sep (fps [b14 g5947 g5949 a5957 a5958 a5959 a5960, b13 g5949 A5952 m5953 n5954 a5956, r7 A5952 m5953 n5954 l5951]) w [b14 g5947 g5949 a5957 a5958 a5959 a5960, b13 g5949 A5952 m5953 n5954 a5956, r7 A5952 m5953 n5954 l5951] w)) (H : Aside0 (ring_mark.f k l5951 a5956 a5957 a5958 a5959 a5960 a5961 a5962 a5963 a5964 a5965 a5966 a5967 a5968 a5969 = some r)) :
    Calls Tryz.prog 110 #[.pointer (some ⟨g5947, 0, none⟩), .int .i64 a5961, .agg #[.int .i64 a5962, .int .i64 a5963, .int .i64 a5964, .int .i64 a5965, .int .i64 a5966, .int .i64 a5967, .int .i64 a5968], .int .i64 a5969] w fun e w' => e = .returned (.tuple #[]) ∧ Sep (fps [b14 g5947 g5949 a5957 a5958 a5959 a5960, b13 g5949 A5952 m5953 n5954 a5956, r7 A5952 m5953 n5954 l5951]) w [b14 g5947 g5949 a5957 a5958 a5959 a5960, b13 g5949 A5952 m5953 n5954 r.1, r7 A5952 m5953 n5954 r.2] w' := by
  generalize (fps [b14 g5947 g5949 a5957 a5958 a5959 a5960, b13 g5949 A5952 m5953 n5954 a5956, r7 A5952 m5953 n5954 l5951]) = FF at HS HGl0 ⊢
  obtain rfl := (row_len (HS.out.at2)).symm
  unfold ring_mark.f at H
  go_enter Tryz.func110, Tryz.ntmps110
  go_wp2_with (first | ((with_reducible refine gate_dst (N := 6) rfl ?_); refine box_on ?hg (N := 6) ?hd (cs := #[.int .i64 a5962, .int .i64 a5963, .int .i64 a5964, .int .i64 a5965, .int .i64 a5966, .int .i64 a5967, .int .i64 a5968]) (t := 79) ?hr ?_; (case hd => rfl); (case hg => rfl); (case hr => first | (go_simp; done) | (go_simp; rfl)); intro g5990 hg w5991 hbox hb; replace HS : Aside0 (Sep FF w [b14 g5947 g5949 a5957 a5958 a5959 a5960, b13 g5949 A5952 l5951.length n5954 a5956, r7 A5952 l5951.length n5954 l5951, b3 g5990 a5962 a5963 a5964 a5965 a5966 a5967 a5968] w5991) := ⟨HS.out.box hg hbox hb⟩; clear hg hbox hb; have hc5993 : w5991.cell? ⟨g5990, 5, none⟩ = some (.int .i64 a5967) := blk_cellv (HS.out.at3) 5 rfl; have hz5994 : w5991.frozen? ⟨g5990, 5, none⟩ = false := blk_fz (HS.out.at3) 5) | ((with_reducible refine gate_store (t := 3) (p := 11) rfl ?_); refine store_event (w1 := (World.setCell w5991 ⟨g5990, 5, none⟩ (.int .i64 a5969))) rfl (t := 3) (p := 11) rfl rfl ?hr ?_; (case hr => first | (go_simp; done) | (go_simp; rfl)); intro w5995 hst; clear hc5993 hz5994; have hq0 : Sep FF w [b14 g5947 g5949 a5957 a5958 a5959 a5960, b13 g5949 A5952 l5951.length n5954 a5956, r7 A5952 l5951.length n5954 l5951, b3 g5990 a5962 a5963 a5964 a5965 a5966 a5969 a5968] (World.setCell w5991 ⟨g5990, 5, none⟩ (.int .i64 a5969)) := (HS.out).set1 (l1 := [b14 g5947 g5949 a5957 a5958 a5959 a5960, b13 g5949 A5952 l5951.length n5954 a5956, r7 A5952 l5951.length n5954 l5951]) (l2 := []) 5 (.int .i64 a5969); replace HS : Aside0 (Sep FF w [b14 g5947 g5949 a5957 a5958 a5959 a5960, b13 g5949 A5952 l5951.length n5954 a5956, r7 A5952 l5951.length n5954 l5951, b3 g5990 a5962 a5963 a5964 a5965 a5966 a5969 a5968] w5995) := ⟨by rw [hst]; exact hq0⟩; clear hq0; clear hst; have hc5996 : w5995.cell? ⟨g5990, 0, none⟩ = some (.int .i64 a5962) := blk_cellv (HS.out.at3) 0 rfl; have hc5997 : w5995.cell? ⟨g5990, 1, none⟩ = some (.int .i64 a5963) := blk_cellv (HS.out.at3) 1 rfl; have hc5998 : w5995.cell? ⟨g5990, 2, none⟩ = some (.int .i64 a5964) := blk_cellv (HS.out.at3) 2 rfl; have hc5999 : w5995.cell? ⟨g5990, 3, none⟩ = some (.int .i64 a5965) := blk_cellv (HS.out.at3) 3 rfl; have hc6000 : w5995.cell? ⟨g5990, 4, none⟩ = some (.int .i64 a5966) := blk_cellv (HS.out.at3) 4 rfl; have hc6001 : w5995.cell? ⟨g5990, 5, none⟩ = some (.int .i64 a5969) := blk_cellv (HS.out.at3) 5 rfl; have hc6002 : w5995.cell? ⟨g5990, 6, none⟩ = some (.int .i64 a5968) := blk_cellv (HS.out.at3) 6 rfl))
  clear hc5996 hc5997 hc5998 hc5999 hc6000 hc6001 hc6002
  obtain ⟨t6003, HA6004, H⟩ := bind_some H
  refine (tag_Pack.calls _ a5962 a5963 a5964 a5965 a5966 a5969 a5968 t6003 _ ⟨HGl0.out.pass (l := []) HS.out⟩ ⟨Sep.start _⟩ HA6004).mono ?_
  rintro e_ w6005 ⟨rfl, hS⟩
  replace HS : Aside0 (Sep FF w [b14 g5947 g5949 a5957 a5958 a5959 a5960, b13 g5949 A5952 l5951.length n5954 a5956, r7 A5952 l5951.length n5954 l5951, b3 g5990 a5962 a5963 a5964 a5965 a5966 a5969 a5968] w6005) := ⟨HS.out.call hS⟩
  clear hS
  by_cases c6006 : t6003.2 = 0
  · have H := if_yes c6006 H
    have c6006b0 : (t6003.2 == 0) = true := beq_iff_eq.mpr c6006
    have c6006b1 : (t6003.2 != 0) = false := bne_eq_false_iff_eq.mpr c6006
    clear c6006
    replace HS : Aside0 (Sep FF w [b14 g5947 g5949 a5957 a5958 a5959 a5960, b13 g5949 A5952 l5951.length n5954 a5956, r7 A5952 l5951.length n5954 l5951] w6005) := ⟨HS.out.sub (.cons_cons _ (.cons_cons _ (.cons_cons _ (.cons _ .slnil))))⟩
    go_wp2_with fail
    obtain ⟨t6007, HA6008, H⟩ := bind_some H
    refine (ground_Ground_SetWord.calls l5951 a5956 a5957 a5958 a5959 a5960 a5961 0 t6003.1 g5947 g5949 A5952 l5951.length n5954 t6007 _ ⟨HGl0.out.pass HS.out⟩ ⟨HS.out.begin⟩ HA6008).mono ?_
    rintro e_ w6009 ⟨rfl, hS⟩
    replace HS : Aside0 (Sep FF w [b14 g5947 g5949 a5957 a5958 a5959 a5960, b13 g5949 A5952 l5951.length n5954 t6007.2.1, r7 A5952 l5951.length n5954 t6007.2.2] w6009) := ⟨HS.out.call hS⟩
    clear hS
    go_wp2_with fail
    first | go_end0 | refine bodyPost_ret (results_none rfl _ _ _) rfl ?_
    rw [← some_eq H]
    exact ⟨rfl, HS.out⟩
  · have H := if_no c6006 H
    have c6006b0 : (t6003.2 == 0) = false := beq_eq_false_iff_ne.mpr c6006
    have c6006b1 : (t6003.2 != 0) = true := bne_iff_ne.mpr c6006
    clear c6006
    replace HS : Aside0 (Sep FF w [b14 g5947 g5949 a5957 a5958 a5959 a5960, b13 g5949 A5952 l5951.length n5954 a5956, r7 A5952 l5951.length n5954 l5951] w6005) := ⟨HS.out.sub (.cons_cons _ (.cons_cons _ (.cons_cons _ (.cons _ .slnil))))⟩
    go_wp2_with fail
    first | go_end0 | refine bodyPost_ret (results_none rfl _ _ _) rfl ?_
    rw [← some_eq H]
    exact ⟨rfl, HS.out⟩

set_option maxHeartbeats 30000000 in
set_option maxRecDepth 100000 in
theorem ring_link.calls (l6027 : List Int) (a6032 : Int) (a6033 : Int) (a6034 : Int) (a6035 : Int) (a6036 : Int) (a6037 : Int) (a6038 : Int) (a6039 : Int) (a6040 : Int) (g6023 : Nat) (g6025 : Nat) (A6028 : Option Addr) (m6029 : Nat) (n6030 : Nat) (r : Int × List Int) (w : World)  (HGl0 : Aside0 (Gl 0 #[.int .i64 0, .int .i64 0, .int .i64 0, .int .i64 0, .int .i64 0] (fps [b14 g6023 g6025 a6033 a6034 a6035 a6036, b13 g6025 A6028 m6029 n6030 a6032, r7 A6028 m6029 n6030 l6027]) w)) (HS : Aside0 (Sep (fps [b14 g6023 g6025 a6033 a6034 a6035 a6036, b13 g6025 A6028 m6029 n6030 a6032, r7 A6028 m6029 n6030 l6027]) w [b14 g6023 g6025 a6033 a6034 a6035 a6036, b13 g6025 A6028 m6029 n6030 a6032, r7 A6028 m6029 n6030 l6027] w)) (H : Aside0 (ring_link.f l6027 a6032 a6033 a6034 a6035 a6036 a6037 a6038 a6039 a6040 = some r)) :
    Calls Tryz.prog 111 #[.pointer (some ⟨g6023, 0, none⟩), .int .i64 a6037, .int .i64 a6038, .int .i64 a6039, .int .i64 a6040] w fun e w' => e = .returned (.tuple #[]) ∧ Sep (fps [b14 g6023 g6025 a6033 a6034 a6035 a6036, b13 g6025 A6028 m6029 n6030 a6032, r7 A6028 m6029 n6030 l6027]) w [b14 g6023 g6025 a6033 a6034 a6035 a6036, b13 g6025 A6028 m6029 n6030 r.1, r7 A6028 m6029 n6030 r.2] w' := by
  generalize (fps [b14 g6023 g6025 a6033 a6034 a6035 a6036, b13 g6025 A6028 m6029 n6030 a6032, r7 A6028 m6029 n6030 l6027]) = FF at HS HGl0 ⊢
  obtain rfl := (row_len (HS.out.at2)).symm
  unfold ring_link.f at H
  go_enter Tryz.func111, Tryz.ntmps111
  by_cases c6045 : a6037 = 0
  · have H := if_yes c6045 H
    have c6045b0 : (a6037 == 0) = true := beq_iff_eq.mpr c6045
    have c6045b1 : (a6037 != 0) = false := bne_eq_false_iff_eq.mpr c6045
    clear c6045
    go_wp2_with fail
    obtain ⟨t6046, HA6047, H⟩ := bind_some H
    refine (ground_Ground_SetReg.calls l6027 a6032 a6033 a6034 a6035 a6036 a6039 a6040 g6023 g6025 A6028 l6027.length n6030 t6046 _ ⟨HGl0.out.pass HS.out⟩ ⟨HS.out.begin⟩ HA6047).mono ?_
    rintro e_ w6048 ⟨rfl, hS⟩
    replace HS : Aside0 (Sep FF w [b14 g6023 g6025 a6033 a6034 a6035 a6036, b13 g6025 A6028 l6027.length n6030 t6046.2.1, r7 A6028 l6027.length n6030 t6046.2.2] w6048) := ⟨HS.out.call hS⟩
    clear hS
    go_wp2_with fail
    first | go_end0 | refine bodyPost_ret (results_none rfl _ _ _) rfl ?_
    rw [← some_eq H]
    exact ⟨rfl, HS.out⟩
  · have H := if_no c6045 H
    have c6045b0 : (a6037 == 0) = false := beq_eq_false_iff_ne.mpr c6045
    have c6045b1 : (a6037 != 0) = true := bne_iff_ne.mpr c6045
    clear c6045
    go_wp2_with fail
    obtain ⟨t6049, HA6050, H⟩ := bind_some H
    refine (ground_Ground_SetWord.calls l6027 a6032 a6033 a6034 a6035 a6036 (wrap64 (a6037 - 1)) a6038 ((a6040) % 4294967296) g6023 g6025 A6028 l6027.length n6030 t6049 _ ⟨HGl0.out.pass HS.out⟩ ⟨HS.out.begin⟩ HA6050).mono ?_
    rintro e_ w6051 ⟨rfl, hS⟩
    replace HS : Aside0 (Sep FF w [b14 g6023 g6025 a6033 a6034 a6035 a6036, b13 g6025 A6028 l6027.length n6030 t6049.2.1, r7 A6028 l6027.length n6030 t6049.2.2] w6051) := ⟨HS.out.call hS⟩
    clear hS
    go_wp2_with fail
    first | go_end0 | refine bodyPost_ret (results_none rfl _ _ _) rfl ?_
    rw [← some_eq H]
    exact ⟨rfl, HS.out⟩

set_option maxHeartbeats 30000000 in
set_option maxRecDepth 100000 in
theorem ring_Add.calls (k : Nat) (l5640 : List Int) (a5645 : Int) (a5646 : Int) (a5647 : Int) (a5648 : Int) (a5649 : Int) (a5650 : Int) (g5636 : Nat) (g5638 : Nat) (A5641 : Option Addr) (m5642 : Nat) (n5643 : Nat) (r : Bool × Int × List Int) (w : World)  (HGl0 : Aside0 (Gl 0 #[.int .i64 0, .int .i64 0, .int .i64 0, .int .i64 0, .int .i64 0] (fps [b14 g5636 g5638 a5646 a5647 a5648 a5649, b13 g5638 A5641 m5642 n5643 a5645, r7 A5641 m5642 n5643 l5640]) w)) (HS : Aside0 (Sep (fps [b14 g5636 g5638 a5646 a5647 a5648 a5649, b13 g5638 A5641 m5642 n5643 a5645, r7 A5641 m5642 n5643 l5640]) w [b14 g5636 g5638 a5646 a5647 a5648 a5649, b13 g5638 A5641 m5642 n5643 a5645, r7 A5641 m5642 n5643 l5640] w)) (H : Aside0 (ring_Add.f k l5640 a5645 a5646 a5647 a5648 a5649 a5650 = some r)) :
    Calls Tryz.prog 56 #[.pointer (some ⟨g5636, 0, none⟩), .int .i64 a5650] w fun e w' => e = .returned (.bool r.1) ∧ Sep (fps [b14 g5636 g5638 a5646 a5647 a5648 a5649, b13 g5638 A5641 m5642 n5643 a5645, r7 A5641 m5642 n5643 l5640]) w [b14 g5636 g5638 a5646 a5647 a5648 a5649, b13 g5638 A5641 m5642 n5643 r.2.1, r7 A5641 m5642 n5643 r.2.2] w' := by
  generalize (fps [b14 g5636 g5638 a5646 a5647 a5648 a5649, b13 g5638 A5641 m5642 n5643 a5645, r7 A5641 m5642 n5643 l5640]) = FF at HS HGl0 ⊢
  obtain rfl := (row_len (HS.out.at2)).symm
  unfold ring_Add.f at H
  go_enter Tryz.func56, Tryz.ntmps56
  go_wp2_with fail
  obtain ⟨t6064, HA6065, H⟩ := bind_some H
  refine (ring_marked.calls l5640 a5645 a5646 a5647 a5648 a5649 a5650 0 g5636 g5638 A5641 l5640.length n5643 t6064 _ ⟨HGl0.out.pass HS.out⟩ ⟨HS.out.begin⟩ HA6065).mono ?_
  rintro e_ w6066 ⟨rfl, hS⟩
  replace HS : Aside0 (Sep FF w [b14 g5636 g5638 a5646 a5647 a5648 a5649, b13 g5638 A5641 l5640.length n5643 t6064.2.2.2.2.2.2.2.2, r7 A5641 l5640.length n5643 l5640] w6066) := ⟨HS.out.call hS⟩
  clear hS
  by_cases c6085 : t6064.2.2.2.2.2.2.2.1 = true
  · have H := if_yes c6085 H
    have c6085b0 : t6064.2.2.2.2.2.2.2.1 = true := c6085
    have c6085b1 : (!t6064.2.2.2.2.2.2.2.1) = false := by rw [c6085b0]; rfl
    try rw [c6085b1]
    clear c6085
    go_wp2_with (first | ((with_reducible refine gate_dst (N := 5) rfl ?_); refine box_on ?hg (N := 5) ?hd (cs := #[.int .i64 0, .int .i64 0, .int .i64 0, .int .i64 0, .int .i64 0, .int .i64 0, .int .i64 0]) (t := 79) ?hr ?_; (case hd => rfl); (case hg => rfl); (case hr => first | (go_simp; done) | (go_simp; rfl)); intro g6067 hg w6068 hbox hb; replace HS : Aside0 (Sep FF w [b14 g5636 g5638 a5646 a5647 a5648 a5649, b13 g5638 A5641 l5640.length n5643 t6064.2.2.2.2.2.2.2.2, r7 A5641 l5640.length n5643 l5640, b3 g6067 0 0 0 0 0 0 0] w6068) := ⟨HS.out.box hg hbox hb⟩; clear hg hbox hb; have hc6070 : w6068.cell? ⟨g6067, 0, none⟩ = some (.int .i64 0) := blk_cellv (HS.out.at3) 0 rfl; have hz6071 : w6068.frozen? ⟨g6067, 0, none⟩ = false := blk_fz (HS.out.at3) 0; have hc6072 : w6068.cell? ⟨g6067, 1, none⟩ = some (.int .i64 0) := blk_cellv (HS.out.at3) 1 rfl; have hz6073 : w6068.frozen? ⟨g6067, 1, none⟩ = false := blk_fz (HS.out.at3) 1; have hc6074 : w6068.cell? ⟨g6067, 2, none⟩ = some (.int .i64 0) := blk_cellv (HS.out.at3) 2 rfl; have hz6075 : w6068.frozen? ⟨g6067, 2, none⟩ = false := blk_fz (HS.out.at3) 2; have hc6076 : w6068.cell? ⟨g6067, 3, none⟩ = some (.int .i64 0) := blk_cellv (HS.out.at3) 3 rfl; have hz6077 : w6068.frozen? ⟨g6067, 3, none⟩ = false := blk_fz (HS.out.at3) 3; have hc6078 : w6068.cell? ⟨g6067, 4, none⟩ = some (.int .i64 0) := blk_cellv (HS.out.at3) 4 rfl; have hz6079 : w6068.frozen? ⟨g6067, 4, none⟩ = false := blk_fz (HS.out.at3) 4; have hc6080 : w6068.cell? ⟨g6067, 5, none⟩ = some (.int .i64 0) := blk_cellv (HS.out.at3) 5 rfl; have hz6081 : w6068.frozen? ⟨g6067, 5, none⟩ = false := blk_fz (HS.out.at3) 5; have hc6082 : w6068.cell? ⟨g6067, 6, none⟩ = some (.int .i64 0) := blk_cellv (HS.out.at3) 6 rfl; have hz6083 : w6068.frozen? ⟨g6067, 6, none⟩ = false := blk_fz (HS.out.at3) 6) | ((with_reducible refine gate_store (t := 79) (p := 5) rfl ?_); refine store_event (w1 := (World.setCell (World.setCell (World.setCell (World.setCell (World.setCell (World.setCell (World.setCell w6068 ⟨g6067, 0, none⟩ (.int .i64 t6064.1)) ⟨g6067, 1, none⟩ (.int .i64 t6064.2.1)) ⟨g6067, 2, none⟩ (.int .i64 t6064.2.2.1)) ⟨g6067, 3, none⟩ (.int .i64 t6064.2.2.2.1)) ⟨g6067, 4, none⟩ (.int .i64 t6064.2.2.2.2.1)) ⟨g6067, 5, none⟩ (.int .i64 t6064.2.2.2.2.2.1)) ⟨g6067, 6, none⟩ (.int .i64 t6064.2.2.2.2.2.2.1))) rfl (t := 79) (p := 5) rfl rfl ?hr ?_; (case hr => first | (go_simp; done) | (go_simp; rfl)); intro w6084 hst; clear hc6070 hz6071 hc6072 hz6073 hc6074 hz6075 hc6076 hz6077 hc6078 hz6079 hc6080 hz6081 hc6082 hz6083; replace HS : Aside0 (Sep FF w [b14 g5636 g5638 a5646 a5647 a5648 a5649, b13 g5638 A5641 l5640.length n5643 t6064.2.2.2.2.2.2.2.2, r7 A5641 l5640.length n5643 l5640, b3 g6067 t6064.1 t6064.2.1 t6064.2.2.1 t6064.2.2.2.1 t6064.2.2.2.2.1 t6064.2.2.2.2.2.1 t6064.2.2.2.2.2.2.1] w6084) := ⟨by rw [hst]; exact HS.out.setAll (l1 := [b14 g5636 g5638 a5646 a5647 a5648 a5649, b13 g5638 A5641 l5640.length n5643 t6064.2.2.2.2.2.2.2.2, r7 A5641 l5640.length n5643 l5640]) (l2 := []) [.int .i64 t6064.1, .int .i64 t6064.2.1, .int .i64 t6064.2.2.1, .int .i64 t6064.2.2.2.1, .int .i64 t6064.2.2.2.2.1, .int .i64 t6064.2.2.2.2.2.1, .int .i64 t6064.2.2.2.2.2.2.1] rfl⟩; clear hst; have hc6086 : w6084.cell? ⟨g6067, 0, none⟩ = some (.int .i64 t6064.1) := blk_cellv (HS.out.at3) 0 rfl; have hc6087 : w6084.cell? ⟨g6067, 1, none⟩ = some (.int .i64 t6064.2.1) := blk_cellv (HS.out.at3) 1 rfl; have hc6088 : w6084.cell? ⟨g6067, 2, none⟩ = some (.int .i64 t6064.2.2.1) := blk_cellv (HS.out.at3) 2 rfl; have hc6089 : w6084.cell? ⟨g6067, 3, none⟩ = some (.int .i64 t6064.2.2.2.1) := blk_cellv (HS.out.at3) 3 rfl; have hc6090 : w6084.cell? ⟨g6067, 4, none⟩ = some (.int .i64 t6064.2.2.2.2.1) := blk_cellv (HS.out.at3) 4 rfl; have hc6091 : w6084.cell? ⟨g6067, 5, none⟩ = some (.int .i64 t6064.2.2.2.2.2.1) := blk_cellv (HS.out.at3) 5 rfl; have hc6092 : w6084.cell? ⟨g6067, 6, none⟩ = some (.int .i64 t6064.2.2.2.2.2.2.1) := blk_cellv (HS.out.at3) 6 rfl))
    clear hc6086 hc6087 hc6088 hc6089 hc6090 hc6091 hc6092
    obtain ⟨t6093, HA6094, H⟩ := bind_some H
    refine (ring_mark.calls _ l5640 t6064.2.2.2.2.2.2.2.2 a5646 a5647 a5648 a5649 a5650 t6064.1 t6064.2.1 t6064.2.2.1 t6064.2.2.2.1 t6064.2.2.2.2.1 t6064.2.2.2.2.2.1 t6064.2.2.2.2.2.2.1 1 g5636 g5638 A5641 l5640.length n5643 t6093 _ ⟨HGl0.out.pass HS.out⟩ ⟨HS.out.begin⟩ HA6094).mono ?_
    rintro e_ w6095 ⟨rfl, hS⟩
    replace HS : Aside0 (Sep FF w [b14 g5636 g5638 a5646 a5647 a5648 a5649, b13 g5638 A5641 l5640.length n5643 t6093.1, r7 A5641 l5640.length n5643 t6093.2, b3 g6067 t6064.1 t6064.2.1 t6064.2.2.1 t6064.2.2.2.1 t6064.2.2.2.2.1 t6064.2.2.2.2.2.1 t6064.2.2.2.2.2.2.1] w6095) := ⟨HS.out.call hS⟩
    clear hS
    replace HS : Aside0 (Sep FF w [b14 g5636 g5638 a5646 a5647 a5648 a5649, b13 g5638 A5641 l5640.length n5643 t6093.1, r7 A5641 l5640.length n5643 t6093.2] w6095) := ⟨HS.out.sub (.cons_cons _ (.cons_cons _ (.cons_cons _ (.cons _ .slnil))))⟩
    go_wp2_with fail
    obtain ⟨t6096, HA6097, H⟩ := bind_some H
    refine (ground_Ground_Reg.calls t6093.2 t6093.1 a5646 a5647 a5648 a5649 8 g5636 g5638 A5641 l5640.length n5643 t6096 _ ⟨HGl0.out.pass HS.out⟩ ⟨HS.out.begin⟩ HA6097).mono ?_
    rintro e_ w6098 ⟨rfl, hS⟩
    replace HS : Aside0 (Sep FF w [b14 g5636 g5638 a5646 a5647 a5648 a5649, b13 g5638 A5641 l5640.length n5643 t6096.2, r7 A5641 l5640.length n5643 t6093.2] w6098) := ⟨HS.out.call hS⟩
    clear hS
    go_wp2_with fail
    obtain ⟨t6099, HA6100, H⟩ := bind_some H
    refine (ground_Ground_SetWord.calls t6093.2 t6096.2 a5646 a5647 a5648 a5649 a5650 6 ((t6096.1) % 4294967296) g5636 g5638 A5641 l5640.length n5643 t6099 _ ⟨HGl0.out.pass HS.out⟩ ⟨HS.out.begin⟩ HA6100).mono ?_
    rintro e_ w6101 ⟨rfl, hS⟩
    replace HS : Aside0 (Sep FF w [b14 g5636 g5638 a5646 a5647 a5648 a5649, b13 g5638 A5641 l5640.length n5643 t6099.2.1, r7 A5641 l5640.length n5643 t6099.2.2] w6101) := ⟨HS.out.call hS⟩
    clear hS
    go_wp2_with fail
    obtain ⟨t6102, HA6103, H⟩ := bind_some H
    refine (ground_Ground_SetWord.calls t6099.2.2 t6099.2.1 a5646 a5647 a5648 a5649 a5650 7 0 g5636 g5638 A5641 l5640.length n5643 t6102 _ ⟨HGl0.out.pass HS.out⟩ ⟨HS.out.begin⟩ HA6103).mono ?_
    rintro e_ w6104 ⟨rfl, hS⟩
    replace HS : Aside0 (Sep FF w [b14 g5636 g5638 a5646 a5647 a5648 a5649, b13 g5638 A5641 l5640.length n5643 t6102.2.1, r7 A5641 l5640.length n5643 t6102.2.2] w6104) := ⟨HS.out.call hS⟩
    clear hS
    go_wp2_with fail
    obtain ⟨t6105, HA6106, H⟩ := bind_some H
    refine (ring_link.calls t6102.2.2 t6102.2.1 a5646 a5647 a5648 a5649 t6096.1 7 7 (wrap64 (a5650 + 1)) g5636 g5638 A5641 l5640.length n5643 t6105 _ ⟨HGl0.out.pass HS.out⟩ ⟨HS.out.begin⟩ HA6106).mono ?_
    rintro e_ w6107 ⟨rfl, hS⟩
    replace HS : Aside0 (Sep FF w [b14 g5636 g5638 a5646 a5647 a5648 a5649, b13 g5638 A5641 l5640.length n5643 t6105.1, r7 A5641 l5640.length n5643 t6105.2] w6107) := ⟨HS.out.call hS⟩
    clear hS
    go_wp2_with fail
    obtain ⟨t6108, HA6109, H⟩ := bind_some H
    refine (ground_Ground_SetReg.calls t6105.2 t6105.1 a5646 a5647 a5648 a5649 8 (wrap64 (a5650 + 1)) g5636 g5638 A5641 l5640.length n5643 t6108 _ ⟨HGl0.out.pass HS.out⟩ ⟨HS.out.begin⟩ HA6109).mono ?_
    rintro e_ w6110 ⟨rfl, hS⟩
    replace HS : Aside0 (Sep FF w [b14 g5636 g5638 a5646 a5647 a5648 a5649, b13 g5638 A5641 l5640.length n5643 t6108.2.1, r7 A5641 l5640.length n5643 t6108.2.2] w6110) := ⟨HS.out.call hS⟩
    clear hS
    go_wp2_with fail
    obtain ⟨t6111, HA6112, H⟩ := bind_some H
    refine (ground_Ground_Reg.calls t6108.2.2 t6108.2.1 a5646 a5647 a5648 a5649 9 g5636 g5638 A5641 l5640.length n5643 t6111 _ ⟨HGl0.out.pass HS.out⟩ ⟨HS.out.begin⟩ HA6112).mono ?_
    rintro e_ w6113 ⟨rfl, hS⟩
    replace HS : Aside0 (Sep FF w [b14 g5636 g5638 a5646 a5647 a5648 a5649, b13 g5638 A5641 l5640.length n5643 t6111.2, r7 A5641 l5640.length n5643 t6108.2.2] w6113) := ⟨HS.out.call hS⟩
    clear hS
    go_wp2_with fail
    obtain ⟨t6114, HA6115, H⟩ := bind_some H
    refine (ground_Ground_SetReg.calls t6108.2.2 t6111.2 a5646 a5647 a5648 a5649 9 (wrap64 (t6111.1 + 1)) g5636 g5638 A5641 l5640.length n5643 t6114 _ ⟨HGl0.out.pass HS.out⟩ ⟨HS.out.begin⟩ HA6115).mono ?_
    rintro e_ w6116 ⟨rfl, hS⟩
    replace HS : Aside0 (Sep FF w [b14 g5636 g5638 a5646 a5647 a5648 a5649, b13 g5638 A5641 l5640.length n5643 t6114.2.1, r7 A5641 l5640.length n5643 t6114.2.2] w6116) := ⟨HS.out.call hS⟩
    clear hS
    go_wp2_with fail
    go_ret
    rw [← some_eq H]
    exact ⟨(by first | rfl | (simp [IntKind.wrap_u32]; done)), HS.out⟩
  · have H := if_no c6085 H
    have c6085b0 : t6064.2.2.2.2.2.2.2.1 = false := by simpa using c6085
    have c6085b1 : (!t6064.2.2.2.2.2.2.2.1) = true := by rw [c6085b0]; rfl
    try rw [c6085b1]
    clear c6085
    go_wp2_with (first | ((with_reducible refine gate_dst (N := 5) rfl ?_); refine box_on ?hg (N := 5) ?hd (cs := #[.int .i64 0, .int .i64 0, .int .i64 0, .int .i64 0, .int .i64 0, .int .i64 0, .int .i64 0]) (t := 79) ?hr ?_; (case hd => rfl); (case hg => rfl); (case hr => first | (go_simp; done) | (go_simp; rfl)); intro g6067 hg w6068 hbox hb; replace HS : Aside0 (Sep FF w [b14 g5636 g5638 a5646 a5647 a5648 a5649, b13 g5638 A5641 l5640.length n5643 t6064.2.2.2.2.2.2.2.2, r7 A5641 l5640.length n5643 l5640, b3 g6067 0 0 0 0 0 0 0] w6068) := ⟨HS.out.box hg hbox hb⟩; clear hg hbox hb; have hc6070 : w6068.cell? ⟨g6067, 0, none⟩ = some (.int .i64 0) := blk_cellv (HS.out.at3) 0 rfl; have hz6071 : w6068.frozen? ⟨g6067, 0, none⟩ = false := blk_fz (HS.out.at3) 0; have hc6072 : w6068.cell? ⟨g6067, 1, none⟩ = some (.int .i64 0) := blk_cellv (HS.out.at3) 1 rfl; have hz6073 : w6068.frozen? ⟨g6067, 1, none⟩ = false := blk_fz (HS.out.at3) 1; have hc6074 : w6068.cell? ⟨g6067, 2, none⟩ = some (.int .i64 0) := blk_cellv (HS.out.at3) 2 rfl; have hz6075 : w6068.frozen? ⟨g6067, 2, none⟩ = false := blk_fz (HS.out.at3) 2; have hc6076 : w6068.cell? ⟨g6067, 3, none⟩ = some (.int .i64 0) := blk_cellv (HS.out.at3) 3 rfl; have hz6077 : w6068.frozen? ⟨g6067, 3, none⟩ = false := blk_fz (HS.out.at3) 3; have hc6078 : w6068.cell? ⟨g6067, 4, none⟩ = some (.int .i64 0) := blk_cellv (HS.out.at3) 4 rfl; have hz6079 : w6068.frozen? ⟨g6067, 4, none⟩ = false := blk_fz (HS.out.at3) 4; have hc6080 : w6068.cell? ⟨g6067, 5, none⟩ = some (.int .i64 0) := blk_cellv (HS.out.at3) 5 rfl; have hz6081 : w6068.frozen? ⟨g6067, 5, none⟩ = false := blk_fz (HS.out.at3) 5; have hc6082 : w6068.cell? ⟨g6067, 6, none⟩ = some (.int .i64 0) := blk_cellv (HS.out.at3) 6 rfl; have hz6083 : w6068.frozen? ⟨g6067, 6, none⟩ = false := blk_fz (HS.out.at3) 6) | ((with_reducible refine gate_store (t := 79) (p := 5) rfl ?_); refine store_event (w1 := (World.setCell (World.setCell (World.setCell (World.setCell (World.setCell (World.setCell (World.setCell w6068 ⟨g6067, 0, none⟩ (.int .i64 t6064.1)) ⟨g6067, 1, none⟩ (.int .i64 t6064.2.1)) ⟨g6067, 2, none⟩ (.int .i64 t6064.2.2.1)) ⟨g6067, 3, none⟩ (.int .i64 t6064.2.2.2.1)) ⟨g6067, 4, none⟩ (.int .i64 t6064.2.2.2.2.1)) ⟨g6067, 5, none⟩ (.int .i64 t6064.2.2.2.2.2.1)) ⟨g6067, 6, none⟩ (.int .i64 t6064.2.2.2.2.2.2.1))) rfl (t := 79) (p := 5) rfl rfl ?hr ?_; (case hr => first | (go_simp; done) | (go_simp; rfl)); intro w6084 hst; clear hc6070 hz6071 hc6072 hz6073 hc6074 hz6075 hc6076 hz6077 hc6078 hz6079 hc6080 hz6081 hc6082 hz6083; replace HS : Aside0 (Sep FF w [b14 g5636 g5638 a5646 a5647 a5648 a5649, b13 g5638 A5641 l5640.length n5643 t6064.2.2.2.2.2.2.2.2, r7 A5641 l5640.length n5643 l5640, b3 g6067 t6064.1 t6064.2.1 t6064.2.2.1 t6064.2.2.2.1 t6064.2.2.2.2.1 t6064.2.2.2.2.2.1 t6064.2.2.2.2.2.2.1] w6084) := ⟨by rw [hst]; exact HS.out.setAll (l1 := [b14 g5636 g5638 a5646 a5647 a5648 a5649, b13 g5638 A5641 l5640.length n5643 t6064.2.2.2.2.2.2.2.2, r7 A5641 l5640.length n5643 l5640]) (l2 := []) [.int .i64 t6064.1, .int .i64 t6064.2.1, .int .i64 t6064.2.2.1, .int .i64 t6064.2.2.2.1, .int .i64 t6064.2.2.2.2.1, .int .i64 t6064.2.2.2.2.2.1, .int .i64 t6064.2.2.2.2.2.2.1] rfl⟩; clear hst; replace HS : Aside0 (Sep FF w [b14 g5636 g5638 a5646 a5647 a5648 a5649, b13 g5638 A5641 l5640.length n5643 t6064.2.2.2.2.2.2.2.2, r7 A5641 l5640.length n5643 l5640] w6084) := ⟨HS.out.sub (.cons_cons _ (.cons_cons _ (.cons_cons _ (.cons _ .slnil))))⟩))
    go_ret
    rw [← some_eq H]
    exact ⟨(by first | rfl | (simp [IntKind.wrap_u32]; done)), HS.out⟩

set_option maxHeartbeats 30000000 in
set_option maxRecDepth 100000 in
theorem tint_Touch.calls (k : Nat) (l5437 : List Int) (a5442 : Int) (a5443 : Int) (a5444 : Int) (a5445 : Int) (a5446 : Int) (a5447 : Int) (g5433 : Nat) (g5435 : Nat) (A5438 : Option Addr) (m5439 : Nat) (n5440 : Nat) (r : Bool × Int × List Int) (w : World)  (HGl0 : Aside0 (Gl 0 #[.int .i64 0, .int .i64 0, .int .i64 0, .int .i64 0, .int .i64 0] (fps [b14 g5433 g5435 a5443 a5444 a5445 a5446, b13 g5435 A5438 m5439 n5440 a5442, r7 A5438 m5439 n5440 l5437]) w)) (HS : Aside0 (Sep (fps [b14 g5433 g5435 a5443 a5444 a5445 a5446, b13 g5435 A5438 m5439 n5440 a5442, r7 A5438 m5439 n5440 l5437]) w [b14 g5433 g5435 a5443 a5444 a5445 a5446, b13 g5435 A5438 m5439 n5440 a5442, r7 A5438 m5439 n5440 l5437] w)) (H : Aside0 (tint_Touch.f k l5437 a5442 a5443 a5444 a5445 a5446 a5447 = some r)) :
    Calls Tryz.prog 18 #[.pointer (some ⟨g5433, 0, none⟩), .int .i64 a5447] w fun e w' => e = .returned (.bool r.1) ∧ Sep (fps [b14 g5433 g5435 a5443 a5444 a5445 a5446, b13 g5435 A5438 m5439 n5440 a5442, r7 A5438 m5439 n5440 l5437]) w [b14 g5433 g5435 a5443 a5444 a5445 a5446, b13 g5435 A5438 m5439 n5440 r.2.1, r7 A5438 m5439 n5440 r.2.2] w' := by
  generalize (fps [b14 g5433 g5435 a5443 a5444 a5445 a5446, b13 g5435 A5438 m5439 n5440 a5442, r7 A5438 m5439 n5440 l5437]) = FF at HS HGl0 ⊢
  obtain rfl := (row_len (HS.out.at2)).symm
  unfold tint_Touch.f at H
  go_enter Tryz.func18, Tryz.ntmps18
  go_wp2_with fail
  obtain ⟨t6120, HA6121, H⟩ := bind_some H
  refine (tint_of.calls l5437 a5442 a5443 a5444 a5445 a5446 a5447 g5433 g5435 A5438 l5437.length n5440 t6120 _ ⟨HGl0.out.pass HS.out⟩ ⟨HS.out.begin⟩ HA6121).mono ?_
  rintro e_ w6122 ⟨rfl, hS⟩
  replace HS : Aside0 (Sep FF w [b14 g5433 g5435 a5443 a5444 a5445 a5446, b13 g5435 A5438 l5437.length n5440 t6120.2.2.2.2.2.2.2.2, r7 A5438 l5437.length n5440 l5437] w6122) := ⟨HS.out.call hS⟩
  clear hS
  go_wp2_with (first | ((with_reducible refine gate_dst (N := 5) rfl ?_); refine box_on ?hg (N := 5) ?hd (cs := #[.int .i64 0, .int .i64 0, .int .i64 0, .int .i64 0, .int .i64 0, .int .i64 0, .int .i64 0]) (t := 79) ?hr ?_; (case hd => rfl); (case hg => rfl); (case hr => first | (go_simp; done) | (go_simp; rfl)); intro g6123 hg w6124 hbox hb; replace HS : Aside0 (Sep FF w [b14 g5433 g5435 a5443 a5444 a5445 a5446, b13 g5435 A5438 l5437.length n5440 t6120.2.2.2.2.2.2.2.2, r7 A5438 l5437.length n5440 l5437, b3 g6123 0 0 0 0 0 0 0] w6124) := ⟨HS.out.box hg hbox hb⟩; clear hg hbox hb; have hc6126 : w6124.cell? ⟨g6123, 0, none⟩ = some (.int .i64 0) := blk_cellv (HS.out.at3) 0 rfl; have hz6127 : w6124.frozen? ⟨g6123, 0, none⟩ = false := blk_fz (HS.out.at3) 0; have hc6128 : w6124.cell? ⟨g6123, 1, none⟩ = some (.int .i64 0) := blk_cellv (HS.out.at3) 1 rfl; have hz6129 : w6124.frozen? ⟨g6123, 1, none⟩ = false := blk_fz (HS.out.at3) 1; have hc6130 : w6124.cell? ⟨g6123, 2, none⟩ = some (.int .i64 0) := blk_cellv (HS.out.at3) 2 rfl; have hz6131 : w6124.frozen? ⟨g6123, 2, none⟩ = false := blk_fz (HS.out.at3) 2; have hc6132 : w6124.cell? ⟨g6123, 3, none⟩ = some (.int .i64 0) := blk_cellv (HS.out.at3) 3 rfl; have hz6133 : w6124.frozen? ⟨g6123, 3, none⟩ = false := blk_fz (HS.out.at3) 3; have hc6134 : w6124.cell? ⟨g6123, 4, none⟩ = some (.int .i64 0) := blk_cellv (HS.out.at3) 4 rfl; have hz6135 : w6124.frozen? ⟨g6123, 4, none⟩ = false := blk_fz (HS.out.at3) 4; have hc6136 : w6124.cell? ⟨g6123, 5, none⟩ = some (.int .i64 0) := blk_cellv (HS.out.at3) 5 rfl; have hz6137 : w6124.frozen? ⟨g6123, 5, none⟩ = false := blk_fz (HS.out.at3) 5; have hc6138 : w6124.cell? ⟨g6123, 6, none⟩ = some (.int .i64 0) := blk_cellv (HS.out.at3) 6 rfl; have hz6139 : w6124.frozen? ⟨g6123, 6, none⟩ = false := blk_fz (HS.out.at3) 6) | ((with_reducible refine gate_store (t := 79) (p := 5) rfl ?_); refine store_event (w1 := (World.setCell (World.setCell (World.setCell (World.setCell (World.setCell (World.setCell (World.setCell w6124 ⟨g6123, 0, none⟩ (.int .i64 t6120.1)) ⟨g6123, 1, none⟩ (.int .i64 t6120.2.1)) ⟨g6123, 2, none⟩ (.int .i64 t6120.2.2.1)) ⟨g6123, 3, none⟩ (.int .i64 t6120.2.2.2.1)) ⟨g6123, 4, none⟩ (.int .i64 t6120.2.2.2.2.1)) ⟨g6123, 5, none⟩ (.int .i64 t6120.2.2.2.2.2.1)) ⟨g6123, 6, none⟩ (.int .i64 t6120.2.2.2.2.2.2.1))) rfl (t := 79) (p := 5) rfl rfl ?hr ?_; (case hr => first | (go_simp; done) | (go_simp; rfl)); intro w6140 hst; clear hc6126 hz6127 hc6128 hz6129 hc6130 hz6131 hc6132 hz6133 hc6134 hz6135 hc6136 hz6137 hc6138 hz6139; replace HS : Aside0 (Sep FF w [b14 g5433 g5435 a5443 a5444 a5445 a5446, b13 g5435 A5438 l5437.length n5440 t6120.2.2.2.2.2.2.2.2, r7 A5438 l5437.length n5440 l5437, b3 g6123 t6120.1 t6120.2.1 t6120.2.2.1 t6120.2.2.2.1 t6120.2.2.2.2.1 t6120.2.2.2.2.2.1 t6120.2.2.2.2.2.2.1] w6140) := ⟨by rw [hst]; exact HS.out.setAll (l1 := [b14 g5433 g5435 a5443 a5444 a5445 a5446, b13 g5435 A5438 l5437.length n5440 t6120.2.2.2.2.2.2.2.2, r7 A5438 l5437.length n5440 l5437]) (l2 := []) [.int .i64 t6120.1, .int .i64 t6120.2.1, .int .i64 t6120.2.2.1, .int .i64 t6120.2.2.2.1, .int .i64 t6120.2.2.2.2.1, .int .i64 t6120.2.2.2.2.2.1, .int .i64 t6120.2.2.2.2.2.2.1] rfl⟩; clear hst))
  refine start_ (n := 25) (S := (fun w' => w'.cell? ⟨g6123, 4, none⟩ = some (.int .i64 t6120.2.2.2.2.1) ∧ w'.cell? ⟨g6123, 1, none⟩ = some (.int .i64 t6120.2.1))) (ds := []) #[false, false, false, false, false, false, false, false, false, false, false, false, false, false, false, false, false, false, false, false, false, false, false, false, false] (by kernel_rfl) rfl rfl (⟨blk_cellv ((HS.out.drew).at3) 4 rfl, blk_cellv ((HS.out.drew).at3) 1 rfl⟩) (fun hHeld => ?_)
  have HS_ := Aside0.mk HS.out.drew
  clear HS
  generalize World.drew _ = w6142 at HS_ hHeld ⊢
  have HS := HS_
  clear HS_
  refine pure_ (i := 0) (N := some 13) (v := ?_) (a' := ?_) #[true, false, false, false, false, false, false, false, false, false, false, false, false, false, false, false, false, false, false, false, false, false, false, false, false] rfl rfl (by kernel_rfl) (fun _ _ _ h => h) (Or.inl ⟨by rfl, ?_⟩) ?_ ?_
  rotate_left
  · intro w'
    go_simp
    with_reducible rfl
  rotate_left
  · simp only [Act.put, List.setIfInBounds_toArray, List.set_cons_zero, List.set_cons_succ, i64_w, i32_w]
    rfl
  refine pure_ (i := 1) (N := some 14) (v := ?_) (a' := ?_) #[true, true, false, false, false, false, false, false, false, false, false, false, false, false, false, false, false, false, false, false, false, false, false, false, false] rfl rfl (by kernel_rfl) (fun _ _ _ h => h) (Or.inl ⟨by rfl, ?_⟩) ?_ ?_
  rotate_left
  · intro w'
    go_simp
    with_reducible rfl
  rotate_left
  · simp only [Act.put, List.setIfInBounds_toArray, List.set_cons_zero, List.set_cons_succ, i64_w, i32_w]
    rfl
  refine pure_ (i := 2) (N := some 15) (v := ?_) (a' := ?_) #[true, true, true, false, false, false, false, false, false, false, false, false, false, false, false, false, false, false, false, false, false, false, false, false, false] rfl rfl (by kernel_rfl) (fun _ _ _ h => h) (Or.inl ⟨by rfl, ?_⟩) ?_ ?_
  rotate_left
  · intro w'
    go_simp
    with_reducible rfl
  rotate_left
  · simp only [Act.put, List.setIfInBounds_toArray, List.set_cons_zero, List.set_cons_succ, i64_w, i32_w]
    rfl
  by_cases c6143 : t6120.2.2.2.2.2.2.2.1 = true
  · have H := if_yes c6143 H
    have c6143b0 : t6120.2.2.2.2.2.2.2.1 = true := c6143
    have c6143b1 : (!t6120.2.2.2.2.2.2.2.1) = false := by rw [c6143b0]; rfl
    try rw [c6143b1]
    clear c6143
    try simp only [c6143b0, Bool.not_true, Bool.not_false]
    refine pure_ (i := 3) (N := some 16) (v := ?_) (a' := ?_) #[true, true, true, true, false, false, false, false, false, false, false, false, false, false, false, false, false, false, false, false, false, false, false, false, false] rfl rfl (by kernel_rfl) (fun _ _ _ h => h) (Or.inl ⟨by rfl, ?_⟩) ?_ ?_
    rotate_left
    · intro w'
      go_simp
      with_reducible rfl
    rotate_left
    · simp only [Act.put, List.setIfInBounds_toArray, List.set_cons_zero, List.set_cons_succ, i64_w, i32_w]
      rfl
    try simp only [c6143b0, Bool.not_true, Bool.not_false]
    refine one_ (i := 4) (N := some 17) #[true, true, true, true, true, false, false, false, false, false, false, false, false, false, false, false, false, false, false, false, false, false, false, false, false] rfl rfl (by kernel_rfl) (by decide) (fun K hK => ?_)
    obtain ⟨t6144, HA6145, H⟩ := bind_some H
    refine goes_ Tryz.func22 (by kernel_rfl) rfl #[.pointer (some ⟨g5433, 0, none⟩)] (by rfl) rfl rfl (by (try simp only [List.map_toArray, List.map_cons, List.map_nil]); first | done | rfl) ?_
    refine (tint_Phase.calls l5437 t6120.2.2.2.2.2.2.2.2 a5443 a5444 a5445 a5446 g5433 g5435 A5438 l5437.length n5440 t6144 _ ⟨HGl0.out.pass HS.out⟩ ⟨HS.out.begin⟩ HA6145).mono ?_
    rintro e_ w6146 ⟨rfl, hS⟩
    replace HS : Aside0 (Sep FF w [b14 g5433 g5435 a5443 a5444 a5445 a5446, b13 g5435 A5438 l5437.length n5440 t6144.2, r7 A5438 l5437.length n5440 l5437, b3 g6123 t6120.1 t6120.2.1 t6120.2.2.1 t6120.2.2.2.1 t6120.2.2.2.2.1 t6120.2.2.2.2.2.1 t6120.2.2.2.2.2.2.1] w6146) := ⟨HS.out.call hS⟩
    clear hS
    refine ⟨_, rfl, ?_⟩
    refine hK.out _ _ (⟨blk_cellv (HS.out.at3) 4 rfl, blk_cellv (HS.out.at3) 1 rfl⟩) (fun hHeld => ?_)
    clear hK K
    refine norm_ (a' := ?_) ?_ ?_
    rotate_left
    · show Act.put _ (some 17) _ = _
      simp only [Act.put, List.setIfInBounds_toArray, List.set_cons_zero, List.set_cons_succ, i64_w, i32_w]
      rfl
    try simp only [c6143b0, Bool.not_true, Bool.not_false]
    refine pure_ (i := 5) (N := some 18) (v := ?_) (a' := ?_) #[true, true, true, true, true, true, false, false, false, false, false, false, false, false, false, false, false, false, false, false, false, false, false, false, false] rfl rfl (by kernel_rfl) (fun _ _ _ h => h) (Or.inl ⟨by rfl, ?_⟩) ?_ ?_
    rotate_left
    · intro w'
      go_simp
      with_reducible rfl
    rotate_left
    · simp only [Act.put, List.setIfInBounds_toArray, List.set_cons_zero, List.set_cons_succ, i64_w, i32_w]
      rfl
    refine pure_ (i := 6) (N := some 19) (v := ?_) (a' := ?_) #[true, true, true, true, true, true, true, false, false, false, false, false, false, false, false, false, false, false, false, false, false, false, false, false, false] rfl rfl (by kernel_rfl) (fun _ _ _ h => h) (Or.inl ⟨by rfl, ?_⟩) ?_ ?_
    rotate_left
    · intro w'
      go_simp
      with_reducible rfl
    rotate_left
    · simp only [Act.put, List.setIfInBounds_toArray, List.set_cons_zero, List.set_cons_succ, i64_w, i32_w]
      rfl
    refine pure_ (i := 7) (N := some 20) (v := ?_) (a' := ?_) #[true, true, true, true, true, true, true, true, false, false, false, false, false, false, false, false, false, false, false, false, false, false, false, false, false] rfl rfl (by kernel_rfl) (fun _ _ _ h => h) (Or.inl ⟨by rfl, ?_⟩) ?_ ?_
    rotate_left
    · intro w'
      go_simp
      with_reducible rfl
    rotate_left
    · simp only [Act.put, List.setIfInBounds_toArray, List.set_cons_zero, List.set_cons_succ, i64_w, i32_w]
      rfl
    by_cases c6147 : t6144.1 = 0
    · have H := if_yes c6147 H
      have c6147b0 : (t6144.1 == 0) = true := beq_iff_eq.mpr c6147
      have c6147b1 : (t6144.1 != 0) = false := bne_eq_false_iff_eq.mpr c6147
      clear c6147
      try simp only [c6147b0, Bool.not_true, Bool.not_false]
      refine pure_ (i := 8) (N := some 21) (v := undef) (a' := ?_) #[true, true, true, true, true, true, true, true, true, false, false, false, false, false, false, false, false, false, false, false, false, false, false, false, false] rfl rfl (by kernel_rfl) (fun _ _ _ h => h) (Or.inr ⟨by rfl, rfl⟩) ?_ ?_
      rotate_left
      · simp only [Act.put, List.setIfInBounds_toArray, List.set_cons_zero, List.set_cons_succ, i64_w, i32_w]
        rfl
      try simp only [c6147b0, Bool.not_true, Bool.not_false]
      refine pure_ (i := 9) (N := some 22) (v := undef) (a' := ?_) #[true, true, true, true, true, true, true, true, true, true, false, false, false, false, false, false, false, false, false, false, false, false, false, false, false] rfl rfl (by kernel_rfl) (fun _ _ _ h => h) (Or.inr ⟨by rfl, rfl⟩) ?_ ?_
      rotate_left
      · simp only [Act.put, List.setIfInBounds_toArray, List.set_cons_zero, List.set_cons_succ, i64_w, i32_w]
        rfl
      try simp only [c6147b0, Bool.not_true, Bool.not_false]
      refine pure_ (i := 10) (N := some 23) (v := undef) (a' := ?_) #[true, true, true, true, true, true, true, true, true, true, true, false, false, false, false, false, false, false, false, false, false, false, false, false, false] rfl rfl (by kernel_rfl) (fun _ _ _ h => h) (Or.inr ⟨by rfl, rfl⟩) ?_ ?_
      rotate_left
      · simp only [Act.put, List.setIfInBounds_toArray, List.set_cons_zero, List.set_cons_succ, i64_w, i32_w]
        rfl
      refine pure_ (i := 11) (N := some 24) (v := ?_) (a' := ?_) #[true, true, true, true, true, true, true, true, true, true, true, true, false, false, false, false, false, false, false, false, false, false, false, false, false] rfl rfl (by kernel_rfl) (fun _ _ _ h => h) (Or.inl ⟨by rfl, ?_⟩) ?_ ?_
      rotate_left
      · intro w'
        go_simp
        with_reducible rfl
      rotate_left
      · simp only [Act.put, List.setIfInBounds_toArray, List.set_cons_zero, List.set_cons_succ, i64_w, i32_w]
        rfl
      refine pure_ (i := 12) (N := some 25) (v := ?_) (a' := ?_) #[true, true, true, true, true, true, true, true, true, true, true, true, true, false, false, false, false, false, false, false, false, false, false, false, false] rfl rfl (by kernel_rfl) (fun _ _ _ h => h) (Or.inl ⟨by rfl, ?_⟩) ?_ ?_
      rotate_left
      · intro w'
        go_simp
        with_reducible rfl
      rotate_left
      · simp only [Act.put, List.setIfInBounds_toArray, List.set_cons_zero, List.set_cons_succ, i64_w, i32_w]
        rfl
      refine pure_ (i := 13) (N := some 26) (v := undef) (a' := ?_) #[true, true, true, true, true, true, true, true, true, true, true, true, true, true, false, false, false, false, false, false, false, false, false, false, false] rfl rfl (by kernel_rfl) (fun _ _ _ h => h) (Or.inr ⟨by rfl, rfl⟩) ?_ ?_
      rotate_left
      · simp only [Act.put, List.setIfInBounds_toArray, List.set_cons_zero, List.set_cons_succ, i64_w, i32_w]
        rfl
      refine pure_ (i := 14) (N := some 27) (v := undef) (a' := ?_) #[true, true, true, true, true, true, true, true, true, true, true, true, true, true, true, false, false, false, false, false, false, false, false, false, false] rfl rfl (by kernel_rfl) (fun _ _ _ h => h) (Or.inr ⟨by rfl, rfl⟩) ?_ ?_
      rotate_left
      · simp only [Act.put, List.setIfInBounds_toArray, List.set_cons_zero, List.set_cons_succ, i64_w, i32_w]
        rfl
      refine pure_ (i := 15) (N := some 28) (v := undef) (a' := ?_) #[true, true, true, true, true, true, true, true, true, true, true, true, true, true, true, true, false, false, false, false, false, false, false, false, false] rfl rfl (by kernel_rfl) (fun _ _ _ h => h) (Or.inr ⟨by rfl, rfl⟩) ?_ ?_
      rotate_left
      · simp only [Act.put, List.setIfInBounds_toArray, List.set_cons_zero, List.set_cons_succ, i64_w, i32_w]
        rfl
      refine pure_ (i := 16) (N := some 29) (v := undef) (a' := ?_) #[true, true, true, true, true, true, true, true, true, true, true, true, true, true, true, true, true, false, false, false, false, false, false, false, false] rfl rfl (by kernel_rfl) (fun _ _ _ h => h) (Or.inr ⟨by rfl, rfl⟩) ?_ ?_
      rotate_left
      · simp only [Act.put, List.setIfInBounds_toArray, List.set_cons_zero, List.set_cons_succ, i64_w, i32_w]
        rfl
      refine pure_ (i := 17) (N := some 30) (v := undef) (a' := ?_) #[true, true, true, true, true, true, true, true, true, true, true, true, true, true, true, true, true, true, false, false, false, false, false, false, false] rfl rfl (by kernel_rfl) (fun _ _ _ h => h) (Or.inr ⟨by rfl, rfl⟩) ?_ ?_
      rotate_left
      · simp only [Act.put, List.setIfInBounds_toArray, List.set_cons_zero, List.set_cons_succ, i64_w, i32_w]
        rfl
      refine pure_ (i := 18) (N := some 31) (v := ?_) (a' := ?_) #[true, true, true, true, true, true, true, true, true, true, true, true, true, true, true, true, true, true, true, false, false, false, false, false, false] rfl rfl (by kernel_rfl) (fun _ _ _ h => h) (Or.inl ⟨by rfl, ?_⟩) ?_ ?_
      rotate_left
      · intro w'
        go_simp
        with_reducible rfl
      rotate_left
      · simp only [Act.put, List.setIfInBounds_toArray, List.set_cons_zero, List.set_cons_succ, i64_w, i32_w]
        rfl
      refine pure_ (i := 19) (N := some 32) (v := ?_) (a' := ?_) #[true, true, true, true, true, true, true, true, true, true, true, true, true, true, true, true, true, true, true, true, false, false, false, false, false] rfl rfl (by kernel_rfl) (fun _ _ _ h => h) (Or.inl ⟨by rfl, ?_⟩) ?_ ?_
      rotate_left
      · intro w'
        go_simp
        with_reducible rfl
      rotate_left
      · simp only [Act.put, List.setIfInBounds_toArray, List.set_cons_zero, List.set_cons_succ, i64_w, i32_w]
        rfl
      refine pure_ (i := 20) (N := some 33) (v := undef) (a' := ?_) #[true, true, true, true, true, true, true, true, true, true, true, true, true, true, true, true, true, true, true, true, true, false, false, false, false] rfl rfl (by kernel_rfl) (fun _ _ _ h => h) (Or.inr ⟨by rfl, rfl⟩) ?_ ?_
      rotate_left
      · simp only [Act.put, List.setIfInBounds_toArray, List.set_cons_zero, List.set_cons_succ, i64_w, i32_w]
        rfl
      refine pure_ (i := 21) (N := some 34) (v := undef) (a' := ?_) #[true, true, true, true, true, true, true, true, true, true, true, true, true, true, true, true, true, true, true, true, true, true, false, false, false] rfl rfl (by kernel_rfl) (fun _ _ _ h => h) (Or.inr ⟨by rfl, rfl⟩) ?_ ?_
      rotate_left
      · simp only [Act.put, List.setIfInBounds_toArray, List.set_cons_zero, List.set_cons_succ, i64_w, i32_w]
        rfl
      refine pure_ (i := 22) (N := some 35) (v := undef) (a' := ?_) #[true, true, true, true, true, true, true, true, true, true, true, true, true, true, true, true, true, true, true, true, true, true, true, false, false] rfl rfl (by kernel_rfl) (fun _ _ _ h => h) (Or.inr ⟨by rfl, rfl⟩) ?_ ?_
      rotate_left
      · simp only [Act.put, List.setIfInBounds_toArray, List.set_cons_zero, List.set_cons_succ, i64_w, i32_w]
        rfl
      refine pure_ (i := 23) (N := some 36) (v := undef) (a' := ?_) #[true, true, true, true, true, true, true, true, true, true, true, true, true, true, true, true, true, true, true, true, true, true, true, true, false] rfl rfl (by kernel_rfl) (fun _ _ _ h => h) (Or.inr ⟨by rfl, rfl⟩) ?_ ?_
      rotate_left
      · simp only [Act.put, List.setIfInBounds_toArray, List.set_cons_zero, List.set_cons_succ, i64_w, i32_w]
        rfl
      refine pure_ (i := 24) (N := some 37) (v := ?_) (a' := ?_) #[true, true, true, true, true, true, true, true, true, true, true, true, true, true, true, true, true, true, true, true, true, true, true, true, true] rfl rfl (by kernel_rfl) (fun _ _ _ h => h) (Or.inl ⟨by rfl, ?_⟩) ?_ ?_
      rotate_left
      · intro w'
        go_simp
        with_reducible rfl
      rotate_left
      · simp only [Act.put, List.setIfInBounds_toArray, List.set_cons_zero, List.set_cons_succ, i64_w, i32_w]
        rfl
      refine done_ (by kernel_rfl) ?_
      replace HS : Aside0 (Sep FF w [b14 g5433 g5435 a5443 a5444 a5445 a5446, b13 g5435 A5438 l5437.length n5440 t6144.2, r7 A5438 l5437.length n5440 l5437] w6146) := ⟨HS.out.sub (.cons_cons _ (.cons_cons _ (.cons_cons _ (.cons _ .slnil))))⟩
      go_wp2_with fail
      go_ret
      rw [← some_eq H]
      exact ⟨(by first | rfl | (simp [IntKind.wrap_u32]; done)), HS.out⟩
    · have H := if_no c6147 H
      have c6147b0 : (t6144.1 == 0) = false := beq_eq_false_iff_ne.mpr c6147
      have c6147b1 : (t6144.1 != 0) = true := bne_iff_ne.mpr c6147
      clear c6147
      try simp only [c6147b0, Bool.not_true, Bool.not_false]
      refine pure_ (i := 8) (N := some 21) (v := ?_) (a' := ?_) #[true, true, true, true, true, true, true, true, true, false, false, false, false, false, false, false, false, false, false, false, false, false, false, false, false] rfl rfl (by kernel_rfl) (fun _ _ _ h => h) (Or.inl ⟨by rfl, ?_⟩) ?_ ?_
      rotate_left
      · intro w'
        go_simp
        with_reducible rfl
      rotate_left
      · simp only [Act.put, List.setIfInBounds_toArray, List.set_cons_zero, List.set_cons_succ, i64_w, i32_w]
        rfl
      try simp only [c6147b0, Bool.not_true, Bool.not_false]
      refine take_ (i := 9) (N := some 22) (v := ?_) (a' := ?_) #[true, true, true, true, true, true, true, true, true, true, false, false, false, false, false, false, false, false, false, false, false, false, false, false, false] rfl rfl (by kernel_rfl) (fun _ _ _ h => h) (Or.inl ⟨by rfl, ?_⟩) hHeld ?_ ?_
      rotate_left
      · rintro w' hS'
        obtain ⟨s0, s1⟩ := hS'
        go_simp
        with_reducible rfl
      rotate_left
      · simp only [Act.put, List.setIfInBounds_toArray, List.set_cons_zero, List.set_cons_succ, i64_w, i32_w]
        rfl
      try simp only [c6147b0, Bool.not_true, Bool.not_false]
      refine pure_ (i := 10) (N := some 23) (v := ?_) (a' := ?_) #[true, true, true, true, true, true, true, true, true, true, true, false, false, false, false, false, false, false, false, false, false, false, false, false, false] rfl rfl (by kernel_rfl) (fun _ _ _ h => h) (Or.inl ⟨by rfl, ?_⟩) ?_ ?_
      rotate_left
      · intro w'
        go_simp
        with_reducible rfl
      rotate_left
      · simp only [Act.put, List.setIfInBounds_toArray, List.set_cons_zero, List.set_cons_succ, i64_w, i32_w]
        rfl
      refine pure_ (i := 11) (N := some 24) (v := ?_) (a' := ?_) #[true, true, true, true, true, true, true, true, true, true, true, true, false, false, false, false, false, false, false, false, false, false, false, false, false] rfl rfl (by kernel_rfl) (fun _ _ _ h => h) (Or.inl ⟨by rfl, ?_⟩) ?_ ?_
      rotate_left
      · intro w'
        go_simp
        with_reducible rfl
      rotate_left
      · simp only [Act.put, List.setIfInBounds_toArray, List.set_cons_zero, List.set_cons_succ, i64_w, i32_w]
        rfl
      refine pure_ (i := 12) (N := some 25) (v := ?_) (a' := ?_) #[true, true, true, true, true, true, true, true, true, true, true, true, true, false, false, false, false, false, false, false, false, false, false, false, false] rfl rfl (by kernel_rfl) (fun _ _ _ h => h) (Or.inl ⟨by rfl, ?_⟩) ?_ ?_
      rotate_left
      · intro w'
        go_simp
        with_reducible rfl
      rotate_left
      · simp only [Act.put, List.setIfInBounds_toArray, List.set_cons_zero, List.set_cons_succ, i64_w, i32_w]
        rfl
      by_cases c6148 : t6120.2.2.2.2.1 = 1
      · have H := if_yes c6148 H
        have c6148b0 : (t6120.2.2.2.2.1 == 1) = true := beq_iff_eq.mpr c6148
        have c6148b1 : (t6120.2.2.2.2.1 != 1) = false := bne_eq_false_iff_eq.mpr c6148
        clear c6148
        try simp only [c6148b0, Bool.not_true, Bool.not_false]
        refine pure_ (i := 13) (N := some 26) (v := undef) (a' := ?_) #[true, true, true, true, true, true, true, true, true, true, true, true, true, true, false, false, false, false, false, false, false, false, false, false, false] rfl rfl (by kernel_rfl) (fun _ _ _ h => h) (Or.inr ⟨by rfl, rfl⟩) ?_ ?_
        rotate_left
        · simp only [Act.put, List.setIfInBounds_toArray, List.set_cons_zero, List.set_cons_succ, i64_w, i32_w]
          rfl
        try simp only [c6148b0, Bool.not_true, Bool.not_false]
        refine pure_ (i := 14) (N := some 27) (v := undef) (a' := ?_) #[true, true, true, true, true, true, true, true, true, true, true, true, true, true, true, false, false, false, false, false, false, false, false, false, false] rfl rfl (by kernel_rfl) (fun _ _ _ h => h) (Or.inr ⟨by rfl, rfl⟩) ?_ ?_
        rotate_left
        · simp only [Act.put, List.setIfInBounds_toArray, List.set_cons_zero, List.set_cons_succ, i64_w, i32_w]
          rfl
        try simp only [c6148b0, Bool.not_true, Bool.not_false]
        refine pure_ (i := 15) (N := some 28) (v := undef) (a' := ?_) #[true, true, true, true, true, true, true, true, true, true, true, true, true, true, true, true, false, false, false, false, false, false, false, false, false] rfl rfl (by kernel_rfl) (fun _ _ _ h => h) (Or.inr ⟨by rfl, rfl⟩) ?_ ?_
        rotate_left
        · simp only [Act.put, List.setIfInBounds_toArray, List.set_cons_zero, List.set_cons_succ, i64_w, i32_w]
          rfl
        try simp only [c6148b0, Bool.not_true, Bool.not_false]
        refine pure_ (i := 16) (N := some 29) (v := undef) (a' := ?_) #[true, true, true, true, true, true, true, true, true, true, true, true, true, true, true, true, true, false, false, false, false, false, false, false, false] rfl rfl (by kernel_rfl) (fun _ _ _ h => h) (Or.inr ⟨by rfl, rfl⟩) ?_ ?_
        rotate_left
        · simp only [Act.put, List.setIfInBounds_toArray, List.set_cons_zero, List.set_cons_succ, i64_w, i32_w]
          rfl
        try simp only [c6148b0, Bool.not_true, Bool.not_false]
        refine pure_ (i := 17) (N := some 30) (v := undef) (a' := ?_) #[true, true, true, true, true, true, true, true, true, true, true, true, true, true, true, true, true, true, false, false, false, false, false, false, false] rfl rfl (by kernel_rfl) (fun _ _ _ h => h) (Or.inr ⟨by rfl, rfl⟩) ?_ ?_
        rotate_left
        · simp only [Act.put, List.setIfInBounds_toArray, List.set_cons_zero, List.set_cons_succ, i64_w, i32_w]
          rfl
        refine pure_ (i := 18) (N := some 31) (v := ?_) (a' := ?_) #[true, true, true, true, true, true, true, true, true, true, true, true, true, true, true, true, true, true, true, false, false, false, false, false, false] rfl rfl (by kernel_rfl) (fun _ _ _ h => h) (Or.inl ⟨by rfl, ?_⟩) ?_ ?_
        rotate_left
        · intro w'
          go_simp
          with_reducible rfl
        rotate_left
        · simp only [Act.put, List.setIfInBounds_toArray, List.set_cons_zero, List.set_cons_succ, i64_w, i32_w]
          rfl
        refine pure_ (i := 19) (N := some 32) (v := ?_) (a' := ?_) #[true, true, true, true, true, true, true, true, true, true, true, true, true, true, true, true, true, true, true, true, false, false, false, false, false] rfl rfl (by kernel_rfl) (fun _ _ _ h => h) (Or.inl ⟨by rfl, ?_⟩) ?_ ?_
        rotate_left
        · intro w'
          go_simp
          with_reducible rfl
        rotate_left
        · simp only [Act.put, List.setIfInBounds_toArray, List.set_cons_zero, List.set_cons_succ, i64_w, i32_w]
          rfl
        refine pure_ (i := 20) (N := some 33) (v := undef) (a' := ?_) #[true, true, true, true, true, true, true, true, true, true, true, true, true, true, true, true, true, true, true, true, true, false, false, false, false] rfl rfl (by kernel_rfl) (fun _ _ _ h => h) (Or.inr ⟨by rfl, rfl⟩) ?_ ?_
        rotate_left
        · simp only [Act.put, List.setIfInBounds_toArray, List.set_cons_zero, List.set_cons_succ, i64_w, i32_w]
          rfl
        refine pure_ (i := 21) (N := some 34) (v := undef) (a' := ?_) #[true, true, true, true, true, true, true, true, true, true, true, true, true, true, true, true, true, true, true, true, true, true, false, false, false] rfl rfl (by kernel_rfl) (fun _ _ _ h => h) (Or.inr ⟨by rfl, rfl⟩) ?_ ?_
        rotate_left
        · simp only [Act.put, List.setIfInBounds_toArray, List.set_cons_zero, List.set_cons_succ, i64_w, i32_w]
          rfl
        refine pure_ (i := 22) (N := some 35) (v := undef) (a' := ?_) #[true, true, true, true, true, true, true, true, true, true, true, true, true, true, true, true, true, true, true, true, true, true, true, false, false] rfl rfl (by kernel_rfl) (fun _ _ _ h => h) (Or.inr ⟨by rfl, rfl⟩) ?_ ?_
        rotate_left
        · simp only [Act.put, List.setIfInBounds_toArray, List.set_cons_zero, List.set_cons_succ, i64_w, i32_w]
          rfl
        refine pure_ (i := 23) (N := some 36) (v := undef) (a' := ?_) #[true, true, true, true, true, true, true, true, true, true, true, true, true, true, true, true, true, true, true, true, true, true, true, true, false] rfl rfl (by kernel_rfl) (fun _ _ _ h => h) (Or.inr ⟨by rfl, rfl⟩) ?_ ?_
        rotate_left
        · simp only [Act.put, List.setIfInBounds_toArray, List.set_cons_zero, List.set_cons_succ, i64_w, i32_w]
          rfl
        refine pure_ (i := 24) (N := some 37) (v := ?_) (a' := ?_) #[true, true, true, true, true, true, true, true, true, true, true, true, true, true, true, true, true, true, true, true, true, true, true, true, true] rfl rfl (by kernel_rfl) (fun _ _ _ h => h) (Or.inl ⟨by rfl, ?_⟩) ?_ ?_
        rotate_left
        · intro w'
          go_simp
          with_reducible rfl
        rotate_left
        · simp only [Act.put, List.setIfInBounds_toArray, List.set_cons_zero, List.set_cons_succ, i64_w, i32_w]
          rfl
        refine done_ (by kernel_rfl) ?_
        replace HS : Aside0 (Sep FF w [b14 g5433 g5435 a5443 a5444 a5445 a5446, b13 g5435 A5438 l5437.length n5440 t6144.2, r7 A5438 l5437.length n5440 l5437] w6146) := ⟨HS.out.sub (.cons_cons _ (.cons_cons _ (.cons_cons _ (.cons _ .slnil))))⟩
        go_wp2_with fail
        go_ret
        rw [← some_eq H]
        exact ⟨(by first | rfl | (simp [IntKind.wrap_u32]; done)), HS.out⟩
      · have H := if_no c6148 H
        have c6148b0 : (t6120.2.2.2.2.1 == 1) = false := beq_eq_false_iff_ne.mpr c6148
        have c6148b1 : (t6120.2.2.2.2.1 != 1) = true := bne_iff_ne.mpr c6148
        clear c6148
        try simp only [c6148b0, Bool.not_true, Bool.not_false]
        refine pure_ (i := 13) (N := some 26) (v := ?_) (a' := ?_) #[true, true, true, true, true, true, true, true, true, true, true, true, true, true, false, false, false, false, false, false, false, false, false, false, false] rfl rfl (by kernel_rfl) (fun _ _ _ h => h) (Or.inl ⟨by rfl, ?_⟩) ?_ ?_
        rotate_left
        · intro w'
          go_simp
          with_reducible rfl
        rotate_left
        · simp only [Act.put, List.setIfInBounds_toArray, List.set_cons_zero, List.set_cons_succ, i64_w, i32_w]
          rfl
        try simp only [c6148b0, Bool.not_true, Bool.not_false]
        refine pure_ (i := 15) (N := some 28) (v := ?_) (a' := ?_) #[true, true, true, true, true, true, true, true, true, true, true, true, true, true, false, true, false, false, false, false, false, false, false, false, false] rfl rfl (by kernel_rfl) (fun _ _ _ h => h) (Or.inl ⟨by rfl, ?_⟩) ?_ ?_
        rotate_left
        · intro w'
          go_simp
          with_reducible rfl
        rotate_left
        · simp only [Act.put, List.setIfInBounds_toArray, List.set_cons_zero, List.set_cons_succ, i64_w, i32_w]
          rfl
        try simp only [c6148b0, Bool.not_true, Bool.not_false]
        refine take_ (i := 14) (N := some 27) (v := ?_) (a' := ?_) #[true, true, true, true, true, true, true, true, true, true, true, true, true, true, true, true, false, false, false, false, false, false, false, false, false] rfl rfl (by kernel_rfl) (fun _ _ _ h => h) (Or.inl ⟨by rfl, ?_⟩) hHeld ?_ ?_
        rotate_left
        · rintro w' hS'
          obtain ⟨s0, s1⟩ := hS'
          go_simp
          with_reducible rfl
        rotate_left
        · simp only [Act.put, List.setIfInBounds_toArray, List.set_cons_zero, List.set_cons_succ, i64_w, i32_w]
          rfl
        try simp only [c6148b0, Bool.not_true, Bool.not_false]
        refine one_ (i := 16) (N := some 29) #[true, true, true, true, true, true, true, true, true, true, true, true, true, true, true, true, true, false, false, false, false, false, false, false, false] rfl rfl (by kernel_rfl) (by decide) (fun K hK => ?_)
        obtain ⟨t6149, HA6150, H⟩ := bind_some H
        refine goes_ Tryz.func15 (by kernel_rfl) rfl #[.pointer (some ⟨g5433, 0, none⟩)] (by rfl) rfl rfl (by (try simp only [List.map_toArray, List.map_cons, List.map_nil]); first | done | rfl) ?_
        refine (tint_Parity.calls l5437 t6144.2 a5443 a5444 a5445 a5446 g5433 g5435 A5438 l5437.length n5440 t6149 _ ⟨HGl0.out.pass HS.out⟩ ⟨HS.out.begin⟩ HA6150).mono ?_
        rintro e_ w6151 ⟨rfl, hS⟩
        replace HS : Aside0 (Sep FF w [b14 g5433 g5435 a5443 a5444 a5445 a5446, b13 g5435 A5438 l5437.length n5440 t6149.2, r7 A5438 l5437.length n5440 l5437, b3 g6123 t6120.1 t6120.2.1 t6120.2.2.1 t6120.2.2.2.1 t6120.2.2.2.2.1 t6120.2.2.2.2.2.1 t6120.2.2.2.2.2.2.1] w6151) := ⟨HS.out.call hS⟩
        clear hS
        refine ⟨_, rfl, ?_⟩
        refine hK.out _ _ (⟨blk_cellv (HS.out.at3) 4 rfl, blk_cellv (HS.out.at3) 1 rfl⟩) (fun hHeld => ?_)
        clear hK K
        refine norm_ (a' := ?_) ?_ ?_
        rotate_left
        · show Act.put _ (some 29) _ = _
          simp only [Act.put, List.setIfInBounds_toArray, List.set_cons_zero, List.set_cons_succ, i64_w, i32_w]
          rfl
        try simp only [c6148b0, Bool.not_true, Bool.not_false]
        refine pure_ (i := 17) (N := some 30) (v := ?_) (a' := ?_) #[true, true, true, true, true, true, true, true, true, true, true, true, true, true, true, true, true, true, false, false, false, false, false, false, false] rfl rfl (by kernel_rfl) (fun _ _ _ h => h) (Or.inl ⟨by rfl, ?_⟩) ?_ ?_
        rotate_left
        · intro w'
          go_simp
          with_reducible rfl
        rotate_left
        · simp only [Act.put, List.setIfInBounds_toArray, List.set_cons_zero, List.set_cons_succ, i64_w, i32_w]
          rfl
        refine pure_ (i := 18) (N := some 31) (v := ?_) (a' := ?_) #[true, true, true, true, true, true, true, true, true, true, true, true, true, true, true, true, true, true, true, false, false, false, false, false, false] rfl rfl (by kernel_rfl) (fun _ _ _ h => h) (Or.inl ⟨by rfl, ?_⟩) ?_ ?_
        rotate_left
        · intro w'
          go_simp
          with_reducible rfl
        rotate_left
        · simp only [Act.put, List.setIfInBounds_toArray, List.set_cons_zero, List.set_cons_succ, i64_w, i32_w]
          rfl
        refine pure_ (i := 19) (N := some 32) (v := ?_) (a' := ?_) #[true, true, true, true, true, true, true, true, true, true, true, true, true, true, true, true, true, true, true, true, false, false, false, false, false] rfl rfl (by kernel_rfl) (fun _ _ _ h => h) (Or.inl ⟨by rfl, ?_⟩) ?_ ?_
        rotate_left
        · intro w'
          go_simp
          with_reducible rfl
        rotate_left
        · simp only [Act.put, List.setIfInBounds_toArray, List.set_cons_zero, List.set_cons_succ, i64_w, i32_w]
          rfl
        by_cases c6152 : t6120.2.1 = t6149.1
        · have H := if_yes c6152 H
          have c6152b0 : (t6120.2.1 == t6149.1) = true := beq_iff_eq.mpr c6152
          have c6152b1 : (t6120.2.1 != t6149.1) = false := bne_eq_false_iff_eq.mpr c6152
          clear c6152
          try simp only [c6152b0, Bool.not_true, Bool.not_false]
          refine pure_ (i := 20) (N := some 33) (v := undef) (a' := ?_) #[true, true, true, true, true, true, true, true, true, true, true, true, true, true, true, true, true, true, true, true, true, false, false, false, false] rfl rfl (by kernel_rfl) (fun _ _ _ h => h) (Or.inr ⟨by rfl, rfl⟩) ?_ ?_
          rotate_left
          · simp only [Act.put, List.setIfInBounds_toArray, List.set_cons_zero, List.set_cons_succ, i64_w, i32_w]
            rfl
          try simp only [c6152b0, Bool.not_true, Bool.not_false]
          refine pure_ (i := 21) (N := some 34) (v := undef) (a' := ?_) #[true, true, true, true, true, true, true, true, true, true, true, true, true, true, true, true, true, true, true, true, true, true, false, false, false] rfl rfl (by kernel_rfl) (fun _ _ _ h => h) (Or.inr ⟨by rfl, rfl⟩) ?_ ?_
          rotate_left
          · simp only [Act.put, List.setIfInBounds_toArray, List.set_cons_zero, List.set_cons_succ, i64_w, i32_w]
            rfl
          try simp only [c6152b0, Bool.not_true, Bool.not_false]
          refine pure_ (i := 22) (N := some 35) (v := undef) (a' := ?_) #[true, true, true, true, true, true, true, true, true, true, true, true, true, true, true, true, true, true, true, true, true, true, true, false, false] rfl rfl (by kernel_rfl) (fun _ _ _ h => h) (Or.inr ⟨by rfl, rfl⟩) ?_ ?_
          rotate_left
          · simp only [Act.put, List.setIfInBounds_toArray, List.set_cons_zero, List.set_cons_succ, i64_w, i32_w]
            rfl
          try simp only [c6152b0, Bool.not_true, Bool.not_false]
          refine pure_ (i := 23) (N := some 36) (v := undef) (a' := ?_) #[true, true, true, true, true, true, true, true, true, true, true, true, true, true, true, true, true, true, true, true, true, true, true, true, false] rfl rfl (by kernel_rfl) (fun _ _ _ h => h) (Or.inr ⟨by rfl, rfl⟩) ?_ ?_
          rotate_left
          · simp only [Act.put, List.setIfInBounds_toArray, List.set_cons_zero, List.set_cons_succ, i64_w, i32_w]
            rfl
          refine pure_ (i := 24) (N := some 37) (v := ?_) (a' := ?_) #[true, true, true, true, true, true, true, true, true, true, true, true, true, true, true, true, true, true, true, true, true, true, true, true, true] rfl rfl (by kernel_rfl) (fun _ _ _ h => h) (Or.inl ⟨by rfl, ?_⟩) ?_ ?_
          rotate_left
          · intro w'
            go_simp
            with_reducible rfl
          rotate_left
          · simp only [Act.put, List.setIfInBounds_toArray, List.set_cons_zero, List.set_cons_succ, i64_w, i32_w]
            rfl
          refine done_ (by kernel_rfl) ?_
          replace HS : Aside0 (Sep FF w [b14 g5433 g5435 a5443 a5444 a5445 a5446, b13 g5435 A5438 l5437.length n5440 t6149.2, r7 A5438 l5437.length n5440 l5437] w6151) := ⟨HS.out.sub (.cons_cons _ (.cons_cons _ (.cons_cons _ (.cons _ .slnil))))⟩
          go_wp2_with fail
          go_ret
          rw [← some_eq H]
          exact ⟨(by first | rfl | (simp [IntKind.wrap_u32]; done)), HS.out⟩
        · have H := if_no c6152 H
          have c6152b0 : (t6120.2.1 == t6149.1) = false := beq_eq_false_iff_ne.mpr c6152
          have c6152b1 : (t6120.2.1 != t6149.1) = true := bne_iff_ne.mpr c6152
          clear c6152
          try simp only [c6152b0, Bool.not_true, Bool.not_false]
          refine pure_ (i := 20) (N := some 33) (v := ?_) (a' := ?_) #[true, true, true, true, true, true, true, true, true, true, true, true, true, true, true, true, true, true, true, true, true, false, false, false, false] rfl rfl (by kernel_rfl) (fun _ _ _ h => h) (Or.inl ⟨by rfl, ?_⟩) ?_ ?_
          rotate_left
          · intro w'
            go_simp
            with_reducible rfl
          rotate_left
          · simp only [Act.put, List.setIfInBounds_toArray, List.set_cons_zero, List.set_cons_succ, i64_w, i32_w]
            rfl
          try simp only [c6152b0, Bool.not_true, Bool.not_false]
          refine pure_ (i := 21) (N := some 34) (v := ?_) (a' := ?_) #[true, true, true, true, true, true, true, true, true, true, true, true, true, true, true, true, true, true, true, true, true, true, false, false, false] rfl rfl (by kernel_rfl) (fun _ _ _ h => h) (Or.inl ⟨by rfl, ?_⟩) ?_ ?_
          rotate_left
          · intro w'
            go_simp
            with_reducible rfl
          rotate_left
          · simp only [Act.put, List.setIfInBounds_toArray, List.set_cons_zero, List.set_cons_succ, i64_w, i32_w]
            rfl
          try simp only [c6152b0, Bool.not_true, Bool.not_false]
          refine one_ (i := 22) (N := some 35) #[true, true, true, true, true, true, true, true, true, true, true, true, true, true, true, true, true, true, true, true, true, true, true, false, false] rfl rfl (by kernel_rfl) (by decide) (fun K hK => ?_)
          obtain ⟨t6153, HA6154, H⟩ := bind_some H
          refine goes_ Tryz.func24 (by kernel_rfl) rfl #[.pointer (some ⟨g5433, 0, none⟩), .int .i64 a5447] (by rfl) rfl rfl (by (try simp only [List.map_toArray, List.map_cons, List.map_nil]); first | done | rfl) ?_
          refine (tint_Paint.calls _ l5437 t6149.2 a5443 a5444 a5445 a5446 a5447 g5433 g5435 A5438 l5437.length n5440 t6153 _ ⟨HGl0.out.pass HS.out⟩ ⟨HS.out.begin⟩ HA6154).mono ?_
          rintro e_ w6155 ⟨rfl, hS⟩
          replace HS : Aside0 (Sep FF w [b14 g5433 g5435 a5443 a5444 a5445 a5446, b13 g5435 A5438 l5437.length n5440 t6153.2.1, r7 A5438 l5437.length n5440 t6153.2.2, b3 g6123 t6120.1 t6120.2.1 t6120.2.2.1 t6120.2.2.2.1 t6120.2.2.2.2.1 t6120.2.2.2.2.2.1 t6120.2.2.2.2.2.2.1] w6155) := ⟨HS.out.call hS⟩
          clear hS
          refine ⟨_, rfl, ?_⟩
          refine hK.out _ _ (⟨blk_cellv (HS.out.at3) 4 rfl, blk_cellv (HS.out.at3) 1 rfl⟩) (fun hHeld => ?_)
          clear hK K
          refine norm_ (a' := ?_) ?_ ?_
          rotate_left
          · show Act.put _ (some 35) _ = _
            simp only [Act.put, List.setIfInBounds_toArray, List.set_cons_zero, List.set_cons_succ, i64_w, i32_w]
            rfl
          try simp only [c6152b0, Bool.not_true, Bool.not_false]
          refine pure_ (i := 23) (N := some 36) (v := ?_) (a' := ?_) #[true, true, true, true, true, true, true, true, true, true, true, true, true, true, true, true, true, true, true, true, true, true, true, true, false] rfl rfl (by kernel_rfl) (fun _ _ _ h => h) (Or.inl ⟨by rfl, ?_⟩) ?_ ?_
          rotate_left
          · intro w'
            go_simp
            with_reducible rfl
          rotate_left
          · simp only [Act.put, List.setIfInBounds_toArray, List.set_cons_zero, List.set_cons_succ, i64_w, i32_w]
            rfl
          refine pure_ (i := 24) (N := some 37) (v := ?_) (a' := ?_) #[true, true, true, true, true, true, true, true, true, true, true, true, true, true, true, true, true, true, true, true, true, true, true, true, true] rfl rfl (by kernel_rfl) (fun _ _ _ h => h) (Or.inl ⟨by rfl, ?_⟩) ?_ ?_
          rotate_left
          · intro w'
            go_simp
            with_reducible rfl
          rotate_left
          · simp only [Act.put, List.setIfInBounds_toArray, List.set_cons_zero, List.set_cons_succ, i64_w, i32_w]
            rfl
          refine done_ (by kernel_rfl) ?_
          by_cases c6156 : t6153.1 = true
          · have H := if_yes c6156 H
            have c6156b0 : t6153.1 = true := c6156
            have c6156b1 : (!t6153.1) = false := by rw [c6156b0]; rfl
            try rw [c6156b1]
            clear c6156
            replace HS : Aside0 (Sep FF w [b14 g5433 g5435 a5443 a5444 a5445 a5446, b13 g5435 A5438 l5437.length n5440 t6153.2.1, r7 A5438 l5437.length n5440 t6153.2.2] w6155) := ⟨HS.out.sub (.cons_cons _ (.cons_cons _ (.cons_cons _ (.cons _ .slnil))))⟩
            go_wp2_with fail
            obtain ⟨t6157, HA6158, H⟩ := bind_some H
            refine (ring_Add.calls _ t6153.2.2 t6153.2.1 a5443 a5444 a5445 a5446 (wrap64 (a5447 - 1)) g5433 g5435 A5438 l5437.length n5440 t6157 _ ⟨HGl0.out.pass HS.out⟩ ⟨HS.out.begin⟩ HA6158).mono ?_
            rintro e_ w6159 ⟨rfl, hS⟩
            replace HS : Aside0 (Sep FF w [b14 g5433 g5435 a5443 a5444 a5445 a5446, b13 g5435 A5438 l5437.length n5440 t6157.2.1, r7 A5438 l5437.length n5440 t6157.2.2] w6159) := ⟨HS.out.call hS⟩
            clear hS
            go_wp2_with fail
            go_ret
            rw [← some_eq H]
            exact ⟨(by first | rfl | (simp [IntKind.wrap_u32]; done)), HS.out⟩
          · have H := if_no c6156 H
            have c6156b0 : t6153.1 = false := by simpa using c6156
            have c6156b1 : (!t6153.1) = true := by rw [c6156b0]; rfl
            try rw [c6156b1]
            clear c6156
            replace HS : Aside0 (Sep FF w [b14 g5433 g5435 a5443 a5444 a5445 a5446, b13 g5435 A5438 l5437.length n5440 t6153.2.1, r7 A5438 l5437.length n5440 t6153.2.2] w6155) := ⟨HS.out.sub (.cons_cons _ (.cons_cons _ (.cons_cons _ (.cons _ .slnil))))⟩
            go_wp2_with fail
            go_ret
            rw [← some_eq H]
            exact ⟨(by first | rfl | (simp [IntKind.wrap_u32]; done)), HS.out⟩
  · have H := if_no c6143 H
    have c6143b0 : t6120.2.2.2.2.2.2.2.1 = false := by simpa using c6143
    have c6143b1 : (!t6120.2.2.2.2.2.2.2.1) = true := by rw [c6143b0]; rfl
    try rw [c6143b1]
    clear c6143
    try simp only [c6143b0, Bool.not_true, Bool.not_false]
    refine pure_ (i := 3) (N := some 16) (v := undef) (a' := ?_) #[true, true, true, true, false, false, false, false, false, false, false, false, false, false, false, false, false, false, false, false, false, false, false, false, false] rfl rfl (by kernel_rfl) (fun _ _ _ h => h) (Or.inr ⟨by rfl, rfl⟩) ?_ ?_
    rotate_left
    · simp only [Act.put, List.setIfInBounds_toArray, List.set_cons_zero, List.set_cons_succ, i64_w, i32_w]
      rfl
    try simp only [c6143b0, Bool.not_true, Bool.not_false]
    refine pure_ (i := 4) (N := some 17) (v := undef) (a' := ?_) #[true, true, true, true, true, false, false, false, false, false, false, false, false, false, false, false, false, false, false, false, false, false, false, false, false] rfl rfl (by kernel_rfl) (fun _ _ _ h => h) (Or.inr ⟨by rfl, rfl⟩) ?_ ?_
    rotate_left
    · simp only [Act.put, List.setIfInBounds_toArray, List.set_cons_zero, List.set_cons_succ, i64_w, i32_w]
      rfl
    try simp only [c6143b0, Bool.not_true, Bool.not_false]
    refine pure_ (i := 5) (N := some 18) (v := undef) (a' := ?_) #[true, true, true, true, true, true, false, false, false, false, false, false, false, false, false, false, false, false, false, false, false, false, false, false, false] rfl rfl (by kernel_rfl) (fun _ _ _ h => h) (Or.inr ⟨by rfl, rfl⟩) ?_ ?_
    rotate_left
    · simp only [Act.put, List.setIfInBounds_toArray, List.set_cons_zero, List.set_cons_succ, i64_w, i32_w]
      rfl
    refine pure_ (i := 6) (N := some 19) (v := ?_) (a' := ?_) #[true, true, true, true, true, true, true, false, false, false, false, false, false, false, false, false, false, false, false, false, false, false, false, false, false] rfl rfl (by kernel_rfl) (fun _ _ _ h => h) (Or.inl ⟨by rfl, ?_⟩) ?_ ?_
    rotate_left
    · intro w'
      go_simp
      with_reducible rfl
    rotate_left
    · simp only [Act.put, List.setIfInBounds_toArray, List.set_cons_zero, List.set_cons_succ, i64_w, i32_w]
      rfl
    refine pure_ (i := 7) (N := some 20) (v := ?_) (a' := ?_) #[true, true, true, true, true, true, true, true, false, false, false, false, false, false, false, false, false, false, false, false, false, false, false, false, false] rfl rfl (by kernel_rfl) (fun _ _ _ h => h) (Or.inl ⟨by rfl, ?_⟩) ?_ ?_
    rotate_left
    · intro w'
      go_simp
      with_reducible rfl
    rotate_left
    · simp only [Act.put, List.setIfInBounds_toArray, List.set_cons_zero, List.set_cons_succ, i64_w, i32_w]
      rfl
    refine pure_ (i := 8) (N := some 21) (v := undef) (a' := ?_) #[true, true, true, true, true, true, true, true, true, false, false, false, false, false, false, false, false, false, false, false, false, false, false, false, false] rfl rfl (by kernel_rfl) (fun _ _ _ h => h) (Or.inr ⟨by rfl, rfl⟩) ?_ ?_
    rotate_left
    · simp only [Act.put, List.setIfInBounds_toArray, List.set_cons_zero, List.set_cons_succ, i64_w, i32_w]
      rfl
    refine pure_ (i := 9) (N := some 22) (v := undef) (a' := ?_) #[true, true, true, true, true, true, true, true, true, true, false, false, false, false, false, false, false, false, false, false, false, false, false, false, false] rfl rfl (by kernel_rfl) (fun _ _ _ h => h) (Or.inr ⟨by rfl, rfl⟩) ?_ ?_
    rotate_left
    · simp only [Act.put, List.setIfInBounds_toArray, List.set_cons_zero, List.set_cons_succ, i64_w, i32_w]
      rfl
    refine pure_ (i := 10) (N := some 23) (v := undef) (a' := ?_) #[true, true, true, true, true, true, true, true, true, true, true, false, false, false, false, false, false, false, false, false, false, false, false, false, false] rfl rfl (by kernel_rfl) (fun _ _ _ h => h) (Or.inr ⟨by rfl, rfl⟩) ?_ ?_
    rotate_left
    · simp only [Act.put, List.setIfInBounds_toArray, List.set_cons_zero, List.set_cons_succ, i64_w, i32_w]
      rfl
    refine pure_ (i := 11) (N := some 24) (v := ?_) (a' := ?_) #[true, true, true, true, true, true, true, true, true, true, true, true, false, false, false, false, false, false, false, false, false, false, false, false, false] rfl rfl (by kernel_rfl) (fun _ _ _ h => h) (Or.inl ⟨by rfl, ?_⟩) ?_ ?_
    rotate_left
    · intro w'
      go_simp
      with_reducible rfl
    rotate_left
    · simp only [Act.put, List.setIfInBounds_toArray, List.set_cons_zero, List.set_cons_succ, i64_w, i32_w]
      rfl
    refine pure_ (i := 12) (N := some 25) (v := ?_) (a' := ?_) #[true, true, true, true, true, true, true, true, true, true, true, true, true, false, false, false, false, false, false, false, false, false, false, false, false] rfl rfl (by kernel_rfl) (fun _ _ _ h => h) (Or.inl ⟨by rfl, ?_⟩) ?_ ?_
    rotate_left
    · intro w'
      go_simp
      with_reducible rfl
    rotate_left
    · simp only [Act.put, List.setIfInBounds_toArray, List.set_cons_zero, List.set_cons_succ, i64_w, i32_w]
      rfl
    refine pure_ (i := 13) (N := some 26) (v := undef) (a' := ?_) #[true, true, true, true, true, true, true, true, true, true, true, true, true, true, false, false, false, false, false, false, false, false, false, false, false] rfl rfl (by kernel_rfl) (fun _ _ _ h => h) (Or.inr ⟨by rfl, rfl⟩) ?_ ?_
    rotate_left
    · simp only [Act.put, List.setIfInBounds_toArray, List.set_cons_zero, List.set_cons_succ, i64_w, i32_w]
      rfl
    refine pure_ (i := 14) (N := some 27) (v := undef) (a' := ?_) #[true, true, true, true, true, true, true, true, true, true, true, true, true, true, true, false, false, false, false, false, false, false, false, false, false] rfl rfl (by kernel_rfl) (fun _ _ _ h => h) (Or.inr ⟨by rfl, rfl⟩) ?_ ?_
    rotate_left
    · simp only [Act.put, List.setIfInBounds_toArray, List.set_cons_zero, List.set_cons_succ, i64_w, i32_w]
      rfl
    refine pure_ (i := 15) (N := some 28) (v := undef) (a' := ?_) #[true, true, true, true, true, true, true, true, true, true, true, true, true, true, true, true, false, false, false, false, false, false, false, false, false] rfl rfl (by kernel_rfl) (fun _ _ _ h => h) (Or.inr ⟨by rfl, rfl⟩) ?_ ?_
    rotate_left
    · simp only [Act.put, List.setIfInBounds_toArray, List.set_cons_zero, List.set_cons_succ, i64_w, i32_w]
      rfl
    refine pure_ (i := 16) (N := some 29) (v := undef) (a' := ?_) #[true, true, true, true, true, true, true, true, true, true, true, true, true, true, true, true, true, false, false, false, false, false, false, false, false] rfl rfl (by kernel_rfl) (fun _ _ _ h => h) (Or.inr ⟨by rfl, rfl⟩) ?_ ?_
    rotate_left
    · simp only [Act.put, List.setIfInBounds_toArray, List.set_cons_zero, List.set_cons_succ, i64_w, i32_w]
      rfl
    refine pure_ (i := 17) (N := some 30) (v := undef) (a' := ?_) #[true, true, true, true, true, true, true, true, true, true, true, true, true, true, true, true, true, true, false, false, false, false, false, false, false] rfl rfl (by kernel_rfl) (fun _ _ _ h => h) (Or.inr ⟨by rfl, rfl⟩) ?_ ?_
    rotate_left
    · simp only [Act.put, List.setIfInBounds_toArray, List.set_cons_zero, List.set_cons_succ, i64_w, i32_w]
      rfl
    refine pure_ (i := 18) (N := some 31) (v := ?_) (a' := ?_) #[true, true, true, true, true, true, true, true, true, true, true, true, true, true, true, true, true, true, true, false, false, false, false, false, false] rfl rfl (by kernel_rfl) (fun _ _ _ h => h) (Or.inl ⟨by rfl, ?_⟩) ?_ ?_
    rotate_left
    · intro w'
      go_simp
      with_reducible rfl
    rotate_left
    · simp only [Act.put, List.setIfInBounds_toArray, List.set_cons_zero, List.set_cons_succ, i64_w, i32_w]
      rfl
    refine pure_ (i := 19) (N := some 32) (v := ?_) (a' := ?_) #[true, true, true, true, true, true, true, true, true, true, true, true, true, true, true, true, true, true, true, true, false, false, false, false, false] rfl rfl (by kernel_rfl) (fun _ _ _ h => h) (Or.inl ⟨by rfl, ?_⟩) ?_ ?_
    rotate_left
    · intro w'
      go_simp
      with_reducible rfl
    rotate_left
    · simp only [Act.put, List.setIfInBounds_toArray, List.set_cons_zero, List.set_cons_succ, i64_w, i32_w]
      rfl
    refine pure_ (i := 20) (N := some 33) (v := undef) (a' := ?_) #[true, true, true, true, true, true, true, true, true, true, true, true, true, true, true, true, true, true, true, true, true, false, false, false, false] rfl rfl (by kernel_rfl) (fun _ _ _ h => h) (Or.inr ⟨by rfl, rfl⟩) ?_ ?_
    rotate_left
    · simp only [Act.put, List.setIfInBounds_toArray, List.set_cons_zero, List.set_cons_succ, i64_w, i32_w]
      rfl
    refine pure_ (i := 21) (N := some 34) (v := undef) (a' := ?_) #[true, true, true, true, true, true, true, true, true, true, true, true, true, true, true, true, true, true, true, true, true, true, false, false, false] rfl rfl (by kernel_rfl) (fun _ _ _ h => h) (Or.inr ⟨by rfl, rfl⟩) ?_ ?_
    rotate_left
    · simp only [Act.put, List.setIfInBounds_toArray, List.set_cons_zero, List.set_cons_succ, i64_w, i32_w]
      rfl
    refine pure_ (i := 22) (N := some 35) (v := undef) (a' := ?_) #[true, true, true, true, true, true, true, true, true, true, true, true, true, true, true, true, true, true, true, true, true, true, true, false, false] rfl rfl (by kernel_rfl) (fun _ _ _ h => h) (Or.inr ⟨by rfl, rfl⟩) ?_ ?_
    rotate_left
    · simp only [Act.put, List.setIfInBounds_toArray, List.set_cons_zero, List.set_cons_succ, i64_w, i32_w]
      rfl
    refine pure_ (i := 23) (N := some 36) (v := undef) (a' := ?_) #[true, true, true, true, true, true, true, true, true, true, true, true, true, true, true, true, true, true, true, true, true, true, true, true, false] rfl rfl (by kernel_rfl) (fun _ _ _ h => h) (Or.inr ⟨by rfl, rfl⟩) ?_ ?_
    rotate_left
    · simp only [Act.put, List.setIfInBounds_toArray, List.set_cons_zero, List.set_cons_succ, i64_w, i32_w]
      rfl
    refine pure_ (i := 24) (N := some 37) (v := ?_) (a' := ?_) #[true, true, true, true, true, true, true, true, true, true, true, true, true, true, true, true, true, true, true, true, true, true, true, true, true] rfl rfl (by kernel_rfl) (fun _ _ _ h => h) (Or.inl ⟨by rfl, ?_⟩) ?_ ?_
    rotate_left
    · intro w'
      go_simp
      with_reducible rfl
    rotate_left
    · simp only [Act.put, List.setIfInBounds_toArray, List.set_cons_zero, List.set_cons_succ, i64_w, i32_w]
      rfl
    refine done_ (by kernel_rfl) ?_
    replace HS : Aside0 (Sep FF w [b14 g5433 g5435 a5443 a5444 a5445 a5446, b13 g5435 A5438 l5437.length n5440 t6120.2.2.2.2.2.2.2.2, r7 A5438 l5437.length n5440 l5437] w6142) := ⟨HS.out.sub (.cons_cons _ (.cons_cons _ (.cons_cons _ (.cons _ .slnil))))⟩
    go_wp2_with fail
    go_ret
    rw [← some_eq H]
    exact ⟨(by first | rfl | (simp [IntKind.wrap_u32]; done)), HS.out⟩

set_option maxHeartbeats 30000000 in
set_option maxRecDepth 100000 in
theorem store_Store_Peek.calls (l6206 : List Int) (a6211 : Int) (a6212 : Int) (g6204 : Nat) (A6207 : Option Addr) (m6208 : Nat) (n6209 : Nat) (r : Int) (w : World)  (HGl0 : Aside0 (Gl 0 #[.int .i64 0, .int .i64 0, .int .i64 0, .int .i64 0, .int .i64 0] (fps [b13 g6204 A6207 m6208 n6209 a6211, r7 A6207 m6208 n6209 l6206]) w)) (HS : Aside0 (Sep (fps [b13 g6204 A6207 m6208 n6209 a6211, r7 A6207 m6208 n6209 l6206]) w [b13 g6204 A6207 m6208 n6209 a6211, r7 A6207 m6208 n6209 l6206] w)) (H : Aside0 (store_Store_Peek.f l6206 a6211 a6212 = some r)) :
    Calls Tryz.prog 119 #[.pointer (some ⟨g6204, 0, none⟩), .int .i64 a6212] w fun e w' => e = .returned (.int .u32 r) ∧ Sep (fps [b13 g6204 A6207 m6208 n6209 a6211, r7 A6207 m6208 n6209 l6206]) w [b13 g6204 A6207 m6208 n6209 a6211, r7 A6207 m6208 n6209 l6206] w' := by
  generalize (fps [b13 g6204 A6207 m6208 n6209 a6211, r7 A6207 m6208 n6209 l6206]) = FF at HS HGl0 ⊢
  obtain rfl := (row_len (HS.out.at1)).symm
  unfold store_Store_Peek.f at H
  go_enter Tryz.func119, Tryz.ntmps119
  go_wp2_with fail
  obtain ⟨t6213, HA6214, H⟩ := bind_some H
  refine (store_Store_has.calls l6206 a6211 a6212 g6204 A6207 l6206.length n6209 t6213 _ ⟨HGl0.out.pass HS.out⟩ ⟨HS.out.begin⟩ HA6214).mono ?_
  rintro e_ w6215 ⟨rfl, hS⟩
  replace HS : Aside0 (Sep FF w [b13 g6204 A6207 l6206.length n6209 a6211, r7 A6207 l6206.length n6209 l6206] w6215) := ⟨HS.out.call hS⟩
  clear hS
  by_cases c6216 : t6213 = true
  · have H := if_yes c6216 H
    have c6216b0 : t6213 = true := c6216
    have c6216b1 : (!t6213) = false := by rw [c6216b0]; rfl
    try rw [c6216b1]
    clear c6216
    by_cases c6218 : 0 ≤ a6212
    · have H := if_yes c6218 H
      have c6218b0 : decide (0 ≤ a6212) = true := decide_eq_true c6218
      have c6218p : (0 ≤ a6212) = True := eq_true c6218
      clear c6218
      by_cases c6219 : a6212 < (l6206.length : Int)
      · have H := if_yes c6219 H
        have c6219b0 : decide (a6212 < (l6206.length : Int)) = true := decide_eq_true c6219
        have c6219p : (a6212 < (l6206.length : Int)) = True := eq_true c6219
        clear c6219
        have hc6217 : w6215.cell? ⟨g6204, 0, none⟩ = some (.slice A6207 l6206.length n6209) := blk_cellv (HS.out.at0) 0 rfl
        obtain ⟨g6220, ea⟩ := row_at (HS.out.at1) (by have := (of_decide_eq_true c6218b0); have := (of_decide_eq_true c6219b0); omega); cases ea
        have hx6221 := C_at_int (row_Ci (HS.out.at1)) a6212 (of_decide_eq_true c6218b0) (of_decide_eq_true c6219b0)
        have hx6222 : w6215.cell? ⟨g6220, (a6212).toNat, none⟩ = some (.int .u32 (rd l6206 a6212)) := (row_get 0 (HS.out.at1) a6212 (of_decide_eq_true c6218b0) (of_decide_eq_true c6219b0)).1
        go_wp2_with fail
        clear hc6217 hx6221 hx6222
        go_ret
        rw [← some_eq H]
        exact ⟨(by first | rfl | (simp [IntKind.wrap_u32]; done)), HS.out⟩
      · have H := if_no c6219 H
        have c6219b0 : decide (a6212 < (l6206.length : Int)) = false := decide_eq_false c6219
        clear c6219
        exact (none_no H).elim
    · have H := if_no c6218 H
      have c6218b0 : decide (0 ≤ a6212) = false := decide_eq_false c6218
      clear c6218
      exact (none_no H).elim
  · have H := if_no c6216 H
    have c6216b0 : t6213 = false := by simpa using c6216
    have c6216b1 : (!t6213) = true := by rw [c6216b0]; rfl
    try rw [c6216b1]
    clear c6216
    go_wp2_with fail
    go_ret
    rw [← some_eq H]
    exact ⟨(by first | rfl | (simp [IntKind.wrap_u32]; done)), HS.out⟩

set_option maxHeartbeats 30000000 in
set_option maxRecDepth 100000 in
theorem ground_Ground_SeeReg.calls (l6186 : List Int) (a6191 : Int) (a6192 : Int) (a6193 : Int) (a6194 : Int) (a6195 : Int) (a6196 : Int) (g6182 : Nat) (g6184 : Nat) (A6187 : Option Addr) (m6188 : Nat) (n6189 : Nat) (r : Int) (w : World)  (HGl0 : Aside0 (Gl 0 #[.int .i64 0, .int .i64 0, .int .i64 0, .int .i64 0, .int .i64 0] (fps [b14 g6182 g6184 a6192 a6193 a6194 a6195, b13 g6184 A6187 m6188 n6189 a6191, r7 A6187 m6188 n6189 l6186]) w)) (HS : Aside0 (Sep (fps [b14 g6182 g6184 a6192 a6193 a6194 a6195, b13 g6184 A6187 m6188 n6189 a6191, r7 A6187 m6188 n6189 l6186]) w [b14 g6182 g6184 a6192 a6193 a6194 a6195, b13 g6184 A6187 m6188 n6189 a6191, r7 A6187 m6188 n6189 l6186] w)) (H : Aside0 (ground_Ground_SeeReg.f l6186 a6191 a6192 a6193 a6194 a6195 a6196 = some r)) :
    Calls Tryz.prog 76 #[.pointer (some ⟨g6182, 0, none⟩), .int .i64 a6196] w fun e w' => e = .returned (.int .i64 r) ∧ Sep (fps [b14 g6182 g6184 a6192 a6193 a6194 a6195, b13 g6184 A6187 m6188 n6189 a6191, r7 A6187 m6188 n6189 l6186]) w [b14 g6182 g6184 a6192 a6193 a6194 a6195, b13 g6184 A6187 m6188 n6189 a6191, r7 A6187 m6188 n6189 l6186] w' := by
  generalize (fps [b14 g6182 g6184 a6192 a6193 a6194 a6195, b13 g6184 A6187 m6188 n6189 a6191, r7 A6187 m6188 n6189 l6186]) = FF at HS HGl0 ⊢
  obtain rfl := (row_len (HS.out.at2)).symm
  unfold ground_Ground_SeeReg.f at H
  go_enter Tryz.func76, Tryz.ntmps76
  go_wp2_with fail
  obtain ⟨t6197, HA6198, H⟩ := bind_some H
  refine (ground_Ground_all.calls l6186 a6191 a6192 a6193 a6194 a6195 g6182 g6184 A6187 l6186.length n6189 t6197 _ ⟨HGl0.out.pass HS.out⟩ ⟨HS.out.begin⟩ HA6198).mono ?_
  rintro e_ w6199 ⟨rfl, hS⟩
  replace HS : Aside0 (Sep FF w [b14 g6182 g6184 a6192 a6193 a6194 a6195, b13 g6184 A6187 l6186.length n6189 a6191, r7 A6187 l6186.length n6189 l6186] w6199) := ⟨HS.out.call hS⟩
  clear hS
  go_wp2_with fail
  obtain ⟨t6200, HA6201, H⟩ := bind_some H
  refine (ground_reg.calls a6196 t6200 _ ⟨HGl0.out.pass (l := []) HS.out⟩ ⟨Sep.start _⟩ HA6201).mono ?_
  rintro e_ w6202 ⟨rfl, hS⟩
  replace HS : Aside0 (Sep FF w [b14 g6182 g6184 a6192 a6193 a6194 a6195, b13 g6184 A6187 l6186.length n6189 a6191, r7 A6187 l6186.length n6189 l6186] w6202) := ⟨HS.out.call hS⟩
  clear hS
  go_wp2_with fail
  replace HS : Aside0 (Sep FF w [r7 A6187 l6186.length n6189 l6186, b14 g6182 g6184 a6192 a6193 a6194 a6195, b13 g6184 A6187 l6186.length n6189 a6191] w6202) := ⟨HS.out.front 2 (by simp)⟩
  replace HS : Aside0 (Sep FF w [b13 g6184 A6187 l6186.length n6189 a6191, r7 A6187 l6186.length n6189 l6186, b14 g6182 g6184 a6192 a6193 a6194 a6195] w6202) := ⟨HS.out.front 2 (by simp)⟩
  obtain ⟨t6223, HA6224, H⟩ := bind_some H
  refine (store_Store_Peek.calls l6186 a6191 t6200 g6184 A6187 l6186.length n6189 t6223 _ ⟨HGl0.out.pass HS.out⟩ ⟨HS.out.begin⟩ HA6224).mono ?_
  rintro e_ w6225 ⟨rfl, hS⟩
  replace HS : Aside0 (Sep FF w [b13 g6184 A6187 l6186.length n6189 a6191, r7 A6187 l6186.length n6189 l6186, b14 g6182 g6184 a6192 a6193 a6194 a6195] w6225) := ⟨HS.out.call hS⟩
  clear hS
  go_wp2_with fail
  go_ret
  rw [← some_eq H]
  exact ⟨(by first | rfl | (simp [IntKind.wrap_u32]; done)), ((((HS.out).front 1 (by simp)).front 1 (by simp)).front 2 (by simp)).keep (l := [b14 g6182 g6184 a6192 a6193 a6194 a6195, b13 g6184 A6187 l6186.length n6189 a6191, r7 A6187 l6186.length n6189 l6186]) (rest := [])⟩

set_option maxHeartbeats 30000000 in
set_option maxRecDepth 100000 in
theorem ground_Ground_SeeWord.calls (l6263 : List Int) (a6268 : Int) (a6269 : Int) (a6270 : Int) (a6271 : Int) (a6272 : Int) (a6273 : Int) (a6274 : Int) (g6259 : Nat) (g6261 : Nat) (A6264 : Option Addr) (m6265 : Nat) (n6266 : Nat) (r : Int) (w : World)  (HGl0 : Aside0 (Gl 0 #[.int .i64 0, .int .i64 0, .int .i64 0, .int .i64 0, .int .i64 0] (fps [b14 g6259 g6261 a6269 a6270 a6271 a6272, b13 g6261 A6264 m6265 n6266 a6268, r7 A6264 m6265 n6266 l6263]) w)) (HS : Aside0 (Sep (fps [b14 g6259 g6261 a6269 a6270 a6271 a6272, b13 g6261 A6264 m6265 n6266 a6268, r7 A6264 m6265 n6266 l6263]) w [b14 g6259 g6261 a6269 a6270 a6271 a6272, b13 g6261 A6264 m6265 n6266 a6268, r7 A6264 m6265 n6266 l6263] w)) (H : Aside0 (ground_Ground_SeeWord.f l6263 a6268 a6269 a6270 a6271 a6272 a6273 a6274 = some r)) :
    Calls Tryz.prog 93 #[.pointer (some ⟨g6259, 0, none⟩), .int .i64 a6273, .int .i64 a6274] w fun e w' => e = .returned (.int .u32 r) ∧ Sep (fps [b14 g6259 g6261 a6269 a6270 a6271 a6272, b13 g6261 A6264 m6265 n6266 a6268, r7 A6264 m6265 n6266 l6263]) w [b14 g6259 g6261 a6269 a6270 a6271 a6272, b13 g6261 A6264 m6265 n6266 a6268, r7 A6264 m6265 n6266 l6263] w' := by
  generalize (fps [b14 g6259 g6261 a6269 a6270 a6271 a6272, b13 g6261 A6264 m6265 n6266 a6268, r7 A6264 m6265 n6266 l6263]) = FF at HS HGl0 ⊢
  obtain rfl := (row_len (HS.out.at2)).symm
  unfold ground_Ground_SeeWord.f at H
  go_enter Tryz.func93, Tryz.ntmps93
  go_wp2_with fail
  obtain ⟨t6275, HA6276, H⟩ := bind_some H
  refine (ground_Ground_all.calls l6263 a6268 a6269 a6270 a6271 a6272 g6259 g6261 A6264 l6263.length n6266 t6275 _ ⟨HGl0.out.pass HS.out⟩ ⟨HS.out.begin⟩ HA6276).mono ?_
  rintro e_ w6277 ⟨rfl, hS⟩
  replace HS : Aside0 (Sep FF w [b14 g6259 g6261 a6269 a6270 a6271 a6272, b13 g6261 A6264 l6263.length n6266 a6268, r7 A6264 l6263.length n6266 l6263] w6277) := ⟨HS.out.call hS⟩
  clear hS
  go_wp2_with fail
  obtain ⟨t6278, HA6279, H⟩ := bind_some H
  refine (ground_Ground_word.calls l6263 a6268 a6269 a6270 a6271 a6272 a6273 a6274 g6259 g6261 A6264 l6263.length n6266 t6278 _ ⟨HGl0.out.pass HS.out⟩ ⟨HS.out.begin⟩ HA6279).mono ?_
  rintro e_ w6280 ⟨rfl, hS⟩
  replace HS : Aside0 (Sep FF w [b14 g6259 g6261 a6269 a6270 a6271 a6272, b13 g6261 A6264 l6263.length n6266 a6268, r7 A6264 l6263.length n6266 l6263] w6280) := ⟨HS.out.call hS⟩
  clear hS
  go_wp2_with fail
  replace HS : Aside0 (Sep FF w [r7 A6264 l6263.length n6266 l6263, b14 g6259 g6261 a6269 a6270 a6271 a6272, b13 g6261 A6264 l6263.length n6266 a6268] w6280) := ⟨HS.out.front 2 (by simp)⟩
  replace HS : Aside0 (Sep FF w [b13 g6261 A6264 l6263.length n6266 a6268, r7 A6264 l6263.length n6266 l6263, b14 g6259 g6261 a6269 a6270 a6271 a6272] w6280) := ⟨HS.out.front 2 (by simp)⟩
  obtain ⟨t6281, HA6282, H⟩ := bind_some H
  refine (store_Store_Peek.calls l6263 a6268 t6278 g6261 A6264 l6263.length n6266 t6281 _ ⟨HGl0.out.pass HS.out⟩ ⟨HS.out.begin⟩ HA6282).mono ?_
  rintro e_ w6283 ⟨rfl, hS⟩
  replace HS : Aside0 (Sep FF w [b13 g6261 A6264 l6263.length n6266 a6268, r7 A6264 l6263.length n6266 l6263, b14 g6259 g6261 a6269 a6270 a6271 a6272] w6283) := ⟨HS.out.call hS⟩
  clear hS
  go_wp2_with fail
  go_ret
  rw [← some_eq H]
  exact ⟨(by first | rfl | (simp [IntKind.wrap_u32]; done)), ((((HS.out).front 1 (by simp)).front 1 (by simp)).front 2 (by simp)).keep (l := [b14 g6259 g6261 a6269 a6270 a6271 a6272, b13 g6261 A6264 l6263.length n6266 a6268, r7 A6264 l6263.length n6266 l6263]) (rest := [])⟩

set_option maxHeartbeats 30000000 in
set_option maxRecDepth 100000 in
theorem ring_List.calls (k : Nat) (l6171 : List Int) (a6176 : Int) (a6177 : Int) (a6178 : Int) (a6179 : Int) (a6180 : Int) (g6167 : Nat) (g6169 : Nat) (A6172 : Option Addr) (m6173 : Nat) (n6174 : Nat) (r : List Int) (w : World)  (HGl0 : Aside0 (Gl 0 #[.int .i64 0, .int .i64 0, .int .i64 0, .int .i64 0, .int .i64 0] (fps [b14 g6167 g6169 a6177 a6178 a6179 a6180, b13 g6169 A6172 m6173 n6174 a6176, r7 A6172 m6173 n6174 l6171]) w)) (HS : Aside0 (Sep (fps [b14 g6167 g6169 a6177 a6178 a6179 a6180, b13 g6169 A6172 m6173 n6174 a6176, r7 A6172 m6173 n6174 l6171]) w [b14 g6167 g6169 a6177 a6178 a6179 a6180, b13 g6169 A6172 m6173 n6174 a6176, r7 A6172 m6173 n6174 l6171] w)) (H : Aside0 (ring_List.f k l6171 a6176 a6177 a6178 a6179 a6180 = some r)) :
    Calls Tryz.prog 39 #[.pointer (some ⟨g6167, 0, none⟩)] w fun e w' => ∃ (A6307 : Option Addr) (m6308 : Nat) (n6309 : Nat), e = .returned (.slice A6307 m6308 n6309) ∧ Sep (fps [b14 g6167 g6169 a6177 a6178 a6179 a6180, b13 g6169 A6172 m6173 n6174 a6176, r7 A6172 m6173 n6174 l6171]) w [b14 g6167 g6169 a6177 a6178 a6179 a6180, b13 g6169 A6172 m6173 n6174 a6176, r7 A6172 m6173 n6174 l6171, r17 A6307 m6308 n6309 r] w' := by
  generalize (fps [b14 g6167 g6169 a6177 a6178 a6179 a6180, b13 g6169 A6172 m6173 n6174 a6176, r7 A6172 m6173 n6174 l6171]) = FF at HS HGl0 ⊢
  obtain rfl := (row_len (HS.out.at2)).symm
  unfold ring_List.f at H
  go_enter Tryz.func39, Tryz.ntmps39
  go_wp2_with fail
  obtain ⟨t6226, HA6227, H⟩ := bind_some H
  refine (ground_Ground_SeeReg.calls l6171 a6176 a6177 a6178 a6179 a6180 7 g6167 g6169 A6172 l6171.length n6174 t6226 _ ⟨HGl0.out.pass HS.out⟩ ⟨HS.out.begin⟩ HA6227).mono ?_
  rintro e_ w6228 ⟨rfl, hS⟩
  replace HS : Aside0 (Sep FF w [b14 g6167 g6169 a6177 a6178 a6179 a6180, b13 g6169 A6172 l6171.length n6174 a6176, r7 A6172 l6171.length n6174 l6171] w6228) := ⟨HS.out.call hS⟩
  clear hS
  go_wp2_with fail
  replace HS : Aside0 (Sep FF w [r17 none 0 0 [], b14 g6167 g6169 a6177 a6178 a6179 a6180, b13 g6169 A6172 l6171.length n6174 a6176, r7 A6172 l6171.length n6174 l6171] w6228) := ⟨HS.out.nilrow 3 (Value.int .i64)⟩
  obtain ⟨o6230, AL6231, H⟩ := bind_some H
  go_loopg [3, 4] k (fun kq v3 v4 wc => ∃ (x6236 : Int) (x6237 : List Int) (A6238 : Option Addr) (m6239 : Nat) (n6240 : Nat), v3 = .slice A6238 m6239 n6240 ∧ v4 = .int .i64 x6236 ∧ Aside0 (ring_List.lo0 kq l6171 a6176 a6177 a6178 a6179 a6180 x6236 x6237 = some o6230) ∧ Aside0 (Sep FF w [r17 A6238 m6239 n6240 x6237, b14 g6167 g6169 a6177 a6178 a6179 a6180, b13 g6169 A6172 l6171.length n6174 a6176, r7 A6172 l6171.length n6174 l6171] wc))
  case atStart => exact ⟨(t6226), (([] : List Int)), (none), (0), (0), (by first | rfl | (simp [IntKind.wrap_u32]; done)), (by first | rfl | (simp [IntKind.wrap_u32]; done)), AL6231, ⟨HS.out⟩⟩
  case round =>
    clear AL6231 HS
    obtain ⟨x6236, x6237, A6238, m6239, n6240, rfl, rfl, AL6231, HS⟩ := hrel
    obtain ⟨w6232, rfl⟩ : ∃ x : World, x = wr := ⟨_, rfl⟩
    obtain rfl := (row_len (HS.out.at0)).symm
    cases gk with
    | zero => exact absurd AL6231.out (by simp [ring_List.lo0])
    | succ k6233 =>
      have AL0 := AL6231.out
      rw [ring_List.lo0] at AL0
      clear AL6231
      have AL6231 := Aside0.mk AL0
      clear AL0
      by_cases c6242 : x6236 > 0
      · have AL6231 := if_yes c6242 AL6231
        have c6242b0 : decide (0 < x6236) = true := decide_eq_true c6242
        clear c6242
        go_wp2_with fail
        replace HS : Aside0 (Sep FF w [r7 A6172 l6171.length n6174 l6171, r17 A6238 x6237.length n6240 x6237, b14 g6167 g6169 a6177 a6178 a6179 a6180, b13 g6169 A6172 l6171.length n6174 a6176] w6232) := ⟨HS.out.front 3 (by simp)⟩
        replace HS : Aside0 (Sep FF w [b13 g6169 A6172 l6171.length n6174 a6176, r7 A6172 l6171.length n6174 l6171, r17 A6238 x6237.length n6240 x6237, b14 g6167 g6169 a6177 a6178 a6179 a6180] w6232) := ⟨HS.out.front 3 (by simp)⟩
        replace HS : Aside0 (Sep FF w [b14 g6167 g6169 a6177 a6178 a6179 a6180, b13 g6169 A6172 l6171.length n6174 a6176, r7 A6172 l6171.length n6174 l6171, r17 A6238 x6237.length n6240 x6237] w6232) := ⟨HS.out.front 3 (by simp)⟩
        obtain ⟨t6243, HA6244, AL6231⟩ := bind_some AL6231
        refine (ground_Ground_Conf.calls l6171 a6176 a6177 a6178 a6179 a6180 g6167 g6169 A6172 l6171.length n6174 t6243 _ ⟨HGl0.out.pass HS.out⟩ ⟨HS.out.begin⟩ HA6244).mono ?_
        rintro e_ w6245 ⟨rfl, hS⟩
        replace HS : Aside0 (Sep FF w [b14 g6167 g6169 a6177 a6178 a6179 a6180, b13 g6169 A6172 l6171.length n6174 a6176, r7 A6172 l6171.length n6174 l6171, r17 A6238 x6237.length n6240 x6237] w6245) := ⟨HS.out.call hS⟩
        clear hS
        by_cases c6247 : (x6237.length : Int) < t6243.1
        · have AL6231 := if_yes c6247 AL6231
          have c6247b0 : decide ((x6237.length : Int) < t6243.1) = true := decide_eq_true c6247
          clear c6247
          by_cases c6251 : x6237.length < 17592186044416
          · have AL6231 := if_yes c6251 AL6231
            have c6251b0 : decide (x6237.length < 17592186044416) = true := decide_eq_true c6251
            clear c6251
            obtain ⟨y6255, HA6256, AL6231⟩ := bind_some AL6231
            have fl6246 : ∀ w, (Instr.field 29 (.agg #[.int .i64 t6243.1, .int .i64 t6243.2.1, .int .i64 t6243.2.2.1, .int .i64 t6243.2.2.2]) 0).run Tryz.prog w = .ok (.int .i64 t6243.1) w := fun _ => by kernel_rfl
            go_wp2_with (first | ((with_reducible refine gate_dst (N := 27) rfl ?_); refine slice_on (n := 1) ?hg (N := 27) ?hd (cs := #[.int .i64 (wrap64 (x6236 - 1))]) (t := 3) ?hr ?_; (case hd => rfl); (case hg => rfl); (case hr => first | (go_simp; done) | (go_simp; rfl)); intro g6248 hg w6249 hbox hb; clear fl6246; replace HS : Aside0 (Sep FF w [b14 g6167 g6169 a6177 a6178 a6179 a6180, b13 g6169 A6172 l6171.length n6174 a6176, r7 A6172 l6171.length n6174 l6171, r17 A6238 x6237.length n6240 x6237, b2 g6248 (wrap64 (x6236 - 1))] w6249) := ⟨HS.out.box hg hbox hb⟩; clear hg hbox hb) | ((with_reducible refine gate_dst (N := 28) rfl ?_); refine append_event (l1 := [b14 g6167 g6169 a6177 a6178 a6179 a6180, b13 g6169 A6172 l6171.length n6174 a6176, r7 A6172 l6171.length n6174 l6171]) (l2 := [b2 g6248 (wrap64 (x6236 - 1))]) rfl (.tmp 24) (.tmp 27) 66 3 (.int .i64 0) 8 rfl Tryz.underlying66 (by kernel_rfl) rfl (by decide) (Value.int .i64) (fun _ => rfl) (.slice A6238 x6237.length n6240) (x6237 : List Int) [wrap64 (x6236 - 1)] ⟨g6248, 0, none⟩ 1 rfl rfl (blk_news (xs := [wrap64 (x6236 - 1)]) (HS.out.at4)) HS.out (by have := of_decide_eq_true c6251b0; simp only [List.length_cons, List.length_nil]; omega) HA6256 ?_; intro A6252 n6253 w6254 HS1; replace HS : Aside0 (Sep FF w [b14 g6167 g6169 a6177 a6178 a6179 a6180, b13 g6169 A6172 l6171.length n6174 a6176, r7 A6172 l6171.length n6174 l6171, r17 A6252 y6255.length n6253 y6255, b2 g6248 (wrap64 (x6236 - 1))] w6254) := ⟨HS1⟩; clear HS1; replace HS : Aside0 (Sep FF w [b14 g6167 g6169 a6177 a6178 a6179 a6180, b13 g6169 A6172 l6171.length n6174 a6176, r7 A6172 l6171.length n6174 l6171, r17 A6252 y6255.length n6253 y6255] w6254) := ⟨HS.out.sub (.cons_cons _ (.cons_cons _ (.cons_cons _ (.cons_cons _ (.cons _ .slnil)))))⟩))
            obtain ⟨t6284, HA6285, AL6231⟩ := bind_some AL6231
            refine (ground_Ground_SeeWord.calls l6171 a6176 a6177 a6178 a6179 a6180 (wrap64 (x6236 - 1)) 7 g6167 g6169 A6172 l6171.length n6174 t6284 _ ⟨HGl0.out.pass HS.out⟩ ⟨HS.out.begin⟩ HA6285).mono ?_
            rintro e_ w6286 ⟨rfl, hS⟩
            replace HS : Aside0 (Sep FF w [b14 g6167 g6169 a6177 a6178 a6179 a6180, b13 g6169 A6172 l6171.length n6174 a6176, r7 A6172 l6171.length n6174 l6171, r17 A6252 y6255.length n6253 y6255] w6286) := ⟨HS.out.call hS⟩
            clear hS
            go_wp2_with fail
            go_roundg k6233
            case measure => exact Nat.lt_succ_self _
            case rel => exact ⟨(wrap64 (t6284)), (y6255), (A6252), (y6255.length), (n6253), (by first | rfl | (simp [IntKind.wrap_u32]; done)), (by first | rfl | (simp [IntKind.wrap_u32]; done)), Aside0.mk AL6231.out, ⟨(((((HS.out).front 2 (by simp)).front 2 (by simp)).front 2 (by simp)).front 3 (by simp)).keep (l := [r17 A6252 y6255.length n6253 y6255, b14 g6167 g6169 a6177 a6178 a6179 a6180, b13 g6169 A6172 l6171.length n6174 a6176, r7 A6172 l6171.length n6174 l6171]) (rest := [])⟩⟩
          · have AL6231 := if_no c6251 AL6231
            have c6251b0 : decide (x6237.length < 17592186044416) = false := decide_eq_false c6251
            clear c6251
            exact (none_no AL6231).elim
        · have AL6231 := if_no c6247 AL6231
          have c6247b0 : decide ((x6237.length : Int) < t6243.1) = false := decide_eq_false c6247
          clear c6247
          have ho := some_eq AL6231
          subst ho
          clear AL6231
          have fl6246 : ∀ w, (Instr.field 29 (.agg #[.int .i64 t6243.1, .int .i64 t6243.2.1, .int .i64 t6243.2.2.1, .int .i64 t6243.2.2.2]) 0).run Tryz.prog w = .ok (.int .i64 t6243.1) w := fun _ => by kernel_rfl
          go_wp2_with fail
          clear fl6246
          go_ret
          rw [← some_eq H]
          exact ⟨A6238, x6237.length, n6240, (by first | rfl | (simp [IntKind.wrap_u32]; done)), HS.out⟩
      · have AL6231 := if_no c6242 AL6231
        have c6242b0 : decide (0 < x6236) = false := decide_eq_false c6242
        clear c6242
        have ho := some_eq AL6231
        subst ho
        clear AL6231
        go_wp2_with fail
        go_ret
        rw [← some_eq H]
        exact ⟨A6238, x6237.length, n6240, (by first | rfl | (simp [IntKind.wrap_u32]; done)), ((((HS.out).front 3 (by simp)).front 3 (by simp)).front 3 (by simp)).keep (l := [b14 g6167 g6169 a6177 a6178 a6179 a6180, b13 g6169 A6172 l6171.length n6174 a6176, r7 A6172 l6171.length n6174 l6171, r17 A6238 x6237.length n6240 x6237]) (rest := [])⟩
end Go.Proofs.YtobeonkddamnoaaGreatDoor.C

/- Each function of the group Cp does what its plain function says, and changes nothing that was there; proved by walking its code. No condition. -/
import Derived.Test.YtobeonkddamnoaaQw
import Derived.Test.YtobeonkddamnoaaMCp
import Derived.Test.YtobeonkddamnoaaGCp0
import Derived.Test.YtobeonkddamnoaaGCp1
namespace Go.Proofs.Ytobeonkddamnoaa.C
open Go.RowKit Go.Proofs.YtobeonkddamnoaaW.PrintWords Go.Proofs.YtobeonkddamnoaaW.PrintLast Go.Proofs.Ytobeonkddamnoaa.Q Go.Proofs.Ytobeonkddamnoaa.M
set_option linter.unusedVariables false
set_option linter.unusedSimpArgs false
set_option maxHeartbeats 30000000 in
set_option maxRecDepth 100000 in
theorem quitrentlaw08_do.calls (k : Nat) (l00 : List Int) (a00 : Int) (a01 : Int) (a02 : Int) (a03 : Int) (a04 : Int) (l01 : List Int) (l02 : List Int) (a05 : Int) (a06 : Int) (a07 : Int) (g00 : Nat) (g01 : Nat) (A00 : Option Addr) (m00 : Nat) (n00 : Nat) (g02 : Nat) (A01 : Option Addr) (m01 : Nat) (n01 : Nat) (A02 : Option Addr) (m02 : Nat) (n02 : Nat) (r : (Bool × Int × List Int) ⊕ ((Bool × Int × List Int × List Int) ⊕ (Bool × Int × List Int × List Int))) (w : World)   (HS : Aside0 (Sep (fps [b7 g00 g01 a01 a02 a03 a04, b6 g01 A00 m00 n00 a00, r5 A00 m00 n00 l00, b14 g02 A01 m01 n01 A02 m02 n02, r11 A01 m01 n01 l01, r11 A02 m02 n02 l02]) w [b7 g00 g01 a01 a02 a03 a04, b6 g01 A00 m00 n00 a00, r5 A00 m00 n00 l00, b14 g02 A01 m01 n01 A02 m02 n02, r11 A01 m01 n01 l01, r11 A02 m02 n02 l02] w)) (H : Aside0 (quitrentlaw08_do.f k l00 a00 a01 a02 a03 a04 l01 l02 a05 a06 a07 = some r)) :
    Calls Try.prog 58 #[.pointer (some ⟨g00, 0, none⟩), .pointer (some ⟨g02, 0, none⟩), .agg #[.int .u8 a05, .int .i64 a06, .int .i64 a07]] w fun e w' => Sum.elim (fun (r : Bool × Int × List Int) => e = .returned (.bool r.1) ∧ Sep (fps [b7 g00 g01 a01 a02 a03 a04, b6 g01 A00 m00 n00 a00, r5 A00 m00 n00 l00, b14 g02 A01 m01 n01 A02 m02 n02, r11 A01 m01 n01 l01, r11 A02 m02 n02 l02]) w [b7 g00 g01 a01 a02 a03 a04, b6 g01 A00 m00 n00 r.2.1, r5 A00 m00 n00 r.2.2, b14 g02 A01 m01 n01 A02 m02 n02, r11 A01 m01 n01 l01, r11 A02 m02 n02 l02] w') (fun (r_ : (Bool × Int × List Int × List Int) ⊕ (Bool × Int × List Int × List Int)) => Sum.elim (fun (r : Bool × Int × List Int × List Int) => e = .returned (.bool r.1) ∧ ∃ (A03 : Option Addr) (m03 : Nat) (n03 : Nat), Sep (fps [b7 g00 g01 a01 a02 a03 a04, b6 g01 A00 m00 n00 a00, r5 A00 m00 n00 l00, b14 g02 A01 m01 n01 A02 m02 n02, r11 A01 m01 n01 l01, r11 A02 m02 n02 l02]) w [b7 g00 g01 a01 a02 a03 a04, b6 g01 A00 m00 n00 r.2.1, r5 A00 m00 n00 r.2.2.1, b14 g02 A03 m03 n03 A02 m02 n02, r11 A01 m01 n01 l01, r11 A02 m02 n02 l02, r11 A03 m03 n03 r.2.2.2] w') (fun (r : Bool × Int × List Int × List Int) => e = .returned (.bool r.1) ∧ ∃ (A04 : Option Addr) (m04 : Nat) (n04 : Nat), Sep (fps [b7 g00 g01 a01 a02 a03 a04, b6 g01 A00 m00 n00 a00, r5 A00 m00 n00 l00, b14 g02 A01 m01 n01 A02 m02 n02, r11 A01 m01 n01 l01, r11 A02 m02 n02 l02]) w [b7 g00 g01 a01 a02 a03 a04, b6 g01 A00 m00 n00 r.2.1, r5 A00 m00 n00 r.2.2.1, b14 g02 A01 m01 n01 A04 m04 n04, r11 A01 m01 n01 l01, r11 A02 m02 n02 l02, r11 A04 m04 n04 r.2.2.2] w') r_) r := by
  generalize (fps [b7 g00 g01 a01 a02 a03 a04, b6 g01 A00 m00 n00 a00, r5 A00 m00 n00 l00, b14 g02 A01 m01 n01 A02 m02 n02, r11 A01 m01 n01 l01, r11 A02 m02 n02 l02]) = FF at HS ⊢
  obtain rfl := (row_len (HS.out.at2)).symm
  obtain rfl := (row_len (HS.out.at4)).symm
  obtain rfl := (row_len (HS.out.at5)).symm
  unfold quitrentlaw08_do.f at H
  go_enter Try.func58, Try.ntmps58
  by_cases c00 : a06 = 0
  ·replace H := if_yes c00 H
   have c00b0 : (a06 == 0) = true := beq_iff_eq.mpr c00
   have c00b1 : (a06 != 0) = false := bne_eq_false_iff_eq.mpr c00
   clear c00
   go_wp2_with (first | ((with_reducible refine gate_dst (N := 5) rfl ?_); refine box_on ?hg (N := 5) ?hd (cs := #[.int .u8 a05, .int .i64 a06, .int .i64 a07]) (t := 86) ?hr ?_; (case hd => rfl); (case hg => rfl); (case hr => first | (go_simp; done) | (go_simp; rfl)); intro g03 hg w00 hbox hb; replace HS : Aside0 (Sep FF w [b7 g00 g01 a01 a02 a03 a04, b6 g01 A00 l00.length n00 a00, r5 A00 l00.length n00 l00, b14 g02 A01 l01.length n01 A02 l02.length n02, r11 A01 l01.length n01 l01, r11 A02 l02.length n02 l02, b16 g03 a05 a06 a07] w00) := ⟨HS.out.box hg hbox hb⟩; clear hg hbox hb; have hc00 : w00.cell? ⟨g03, 1, none⟩ = some (.int .i64 a06) := blk_cellv (HS.out.at6) 1 rfl))
   clear hc00
   refine start_ (n := 15) (S := (fun w' => w'.cell? ⟨g03, 2, none⟩ = some (.int .i64 a07))) (ds := []) #[false, false, false, false, false, false, false, false, false, false, false, false, false, false, false] (by kernel_rfl) rfl rfl (blk_cellv ((HS.out.drew).at6) 2 rfl) (fun hHeld => ?_)
   have HS_ := Aside0.mk HS.out.drew
   clear HS
   generalize World.drew _ = w01 at HS_ hHeld ⊢
   have HS := HS_
   clear HS_
   refine pure_ (i := 0) (N := some 23) (v := ?_) (a' := ?_) #[true, false, false, false, false, false, false, false, false, false, false, false, false, false, false] rfl rfl (by kernel_rfl) (fun _ _ _ h => h) (Or.inl ⟨by rfl, ?_⟩) ?_ ?_
   rotate_left
   ·intro w'
    go_simp
    with_reducible rfl
   rotate_left
   ·simp only [Act.put, List.setIfInBounds_toArray, List.set_cons_zero, List.set_cons_succ, i64_w, i32_w]
    rfl
   refine pure_ (i := 1) (N := some 24) (v := ?_) (a' := ?_) #[true, true, false, false, false, false, false, false, false, false, false, false, false, false, false] rfl rfl (by kernel_rfl) (fun _ _ _ h => h) (Or.inl ⟨by rfl, ?_⟩) ?_ ?_
   rotate_left
   ·intro w'
    go_simp
    with_reducible rfl
   rotate_left
   ·simp only [Act.put, List.setIfInBounds_toArray, List.set_cons_zero, List.set_cons_succ, i64_w, i32_w]
    rfl
   refine pure_ (i := 2) (N := some 25) (v := ?_) (a' := ?_) #[true, true, true, false, false, false, false, false, false, false, false, false, false, false, false] rfl rfl (by kernel_rfl) (fun _ _ _ h => h) (Or.inl ⟨by rfl, ?_⟩) ?_ ?_
   rotate_left
   ·intro w'
    go_simp
    with_reducible rfl
   rotate_left
   ·simp only [Act.put, List.setIfInBounds_toArray, List.set_cons_zero, List.set_cons_succ, i64_w, i32_w]
    rfl
   refine take_ (i := 3) (N := some 26) (v := ?_) (a' := ?_) #[true, true, true, true, false, false, false, false, false, false, false, false, false, false, false] rfl rfl (by kernel_rfl) (fun _ _ _ h => h) (Or.inl ⟨by rfl, ?_⟩) hHeld ?_ ?_
   rotate_left
   ·rintro w' hS'
    have s0 := hS'
    go_simp
    with_reducible rfl
   rotate_left
   ·simp only [Act.put, List.setIfInBounds_toArray, List.set_cons_zero, List.set_cons_succ, i64_w, i32_w]
    rfl
   refine pure_ (i := 4) (N := some 27) (v := ?_) (a' := ?_) #[true, true, true, true, true, false, false, false, false, false, false, false, false, false, false] rfl rfl (by kernel_rfl) (fun _ _ _ h => h) (Or.inl ⟨by rfl, ?_⟩) ?_ ?_
   rotate_left
   ·intro w'
    go_simp
    with_reducible rfl
   rotate_left
   ·simp only [Act.put, List.setIfInBounds_toArray, List.set_cons_zero, List.set_cons_succ, i64_w, i32_w]
    rfl
   refine pure_ (i := 5) (N := some 28) (v := ?_) (a' := ?_) #[true, true, true, true, true, true, false, false, false, false, false, false, false, false, false] rfl rfl (by kernel_rfl) (fun _ _ _ h => h) (Or.inl ⟨by rfl, ?_⟩) ?_ ?_
   rotate_left
   ·intro w'
    go_simp
    with_reducible rfl
   rotate_left
   ·simp only [Act.put, List.setIfInBounds_toArray, List.set_cons_zero, List.set_cons_succ, i64_w, i32_w]
    rfl
   refine pure_ (i := 6) (N := some 29) (v := ?_) (a' := ?_) #[true, true, true, true, true, true, true, false, false, false, false, false, false, false, false] rfl rfl (by kernel_rfl) (fun _ _ _ h => h) (Or.inl ⟨by rfl, ?_⟩) ?_ ?_
   rotate_left
   ·intro w'
    go_simp
    with_reducible rfl
   rotate_left
   ·simp only [Act.put, List.setIfInBounds_toArray, List.set_cons_zero, List.set_cons_succ, i64_w, i32_w]
    rfl
   by_cases c01 : a07 ≥ 0
   ·replace H := if_yes c01 H
    have c01b0 : decide (0 ≤ a07) = true := decide_eq_true c01
    clear c01
    try simp only [c01b0, Bool.not_true, Bool.not_false]
    refine pure_ (i := 7) (N := some 30) (v := ?_) (a' := ?_) #[true, true, true, true, true, true, true, true, false, false, false, false, false, false, false] rfl rfl (by kernel_rfl) (fun _ _ _ h => h) (Or.inl ⟨by rfl, ?_⟩) ?_ ?_
    rotate_left
    ·intro w'
     go_simp
     with_reducible rfl
    rotate_left
    ·simp only [Act.put, List.setIfInBounds_toArray, List.set_cons_zero, List.set_cons_succ, i64_w, i32_w]
     rfl
    try simp only [c01b0, Bool.not_true, Bool.not_false]
    refine pure_ (i := 9) (N := some 32) (v := ?_) (a' := ?_) #[true, true, true, true, true, true, true, true, false, true, false, false, false, false, false] rfl rfl (by kernel_rfl) (fun _ _ _ h => h) (Or.inl ⟨by rfl, ?_⟩) ?_ ?_
    rotate_left
    ·intro w'
     go_simp
     with_reducible rfl
    rotate_left
    ·simp only [Act.put, List.setIfInBounds_toArray, List.set_cons_zero, List.set_cons_succ, i64_w, i32_w]
     rfl
    try simp only [c01b0, Bool.not_true, Bool.not_false]
    refine take_ (i := 8) (N := some 31) (v := ?_) (a' := ?_) #[true, true, true, true, true, true, true, true, true, true, false, false, false, false, false] rfl rfl (by kernel_rfl) (fun _ _ _ h => h) (Or.inl ⟨by rfl, ?_⟩) hHeld ?_ ?_
    rotate_left
    ·rintro w' hS'
     have s0 := hS'
     go_simp
     with_reducible rfl
    rotate_left
    ·simp only [Act.put, List.setIfInBounds_toArray, List.set_cons_zero, List.set_cons_succ, i64_w, i32_w]
     rfl
    try simp only [c01b0, Bool.not_true, Bool.not_false]
    refine one_ (i := 10) (N := some 33) #[true, true, true, true, true, true, true, true, true, true, true, false, false, false, false] rfl rfl (by kernel_rfl) (by decide) (fun K hK => ?_)
    obtain ⟨t00, HA00, H⟩ := bind_some H
    refine goes_ Try.func39 (by kernel_rfl) rfl #[.pointer (some ⟨g00, 0, none⟩)] (by rfl) rfl rfl (by (try simp only [List.map_toArray, List.map_cons, List.map_nil]); first | done | rfl) ?_
    refine (ground_Ground_Conf.calls l00 a00 a01 a02 a03 a04 g00 g01 A00 l00.length n00 t00 _ ⟨HS.out.begin⟩ HA00).mono ?_
    rintro e_ w02 ⟨rfl, hS⟩
    replace HS : Aside0 (Sep FF w [b7 g00 g01 a01 a02 a03 a04, b6 g01 A00 l00.length n00 a00, r5 A00 l00.length n00 l00, b14 g02 A01 l01.length n01 A02 l02.length n02, r11 A01 l01.length n01 l01, r11 A02 l02.length n02 l02, b16 g03 a05 a06 a07] w02) := ⟨HS.out.call hS⟩
    clear hS
    refine ⟨_, rfl, ?_⟩
    refine hK.out _ _ (blk_cellv (HS.out.at6) 2 rfl) (fun hHeld => ?_)
    clear hK K
    refine norm_ (a' := ?_) ?_ ?_
    rotate_left
    ·show Act.put _ (some 33) _ = _
     simp only [Act.put, List.setIfInBounds_toArray, List.set_cons_zero, List.set_cons_succ, i64_w, i32_w]
     rfl
    try simp only [c01b0, Bool.not_true, Bool.not_false]
    refine pure_ (i := 11) (N := some 34) (v := ?_) (a' := ?_) #[true, true, true, true, true, true, true, true, true, true, true, true, false, false, false] rfl rfl (by kernel_rfl) (fun _ _ _ h => h) (Or.inl ⟨by rfl, ?_⟩) ?_ ?_
    rotate_left
    ·have fl_ : ∀ w, (Instr.field 49 (.agg #[.int .i64 t00.1, .int .i64 t00.2.1, .int .i64 t00.2.2.1, .int .i64 t00.2.2.2]) 0).run Try.prog w = .ok (.int .i64 t00.1) w := fun _ => by kernel_rfl
     intro w'
     go_simp
     with_reducible rfl
    rotate_left
    ·simp only [Act.put, List.setIfInBounds_toArray, List.set_cons_zero, List.set_cons_succ, i64_w, i32_w]
     rfl
    try simp only [c01b0, Bool.not_true, Bool.not_false]
    refine pure_ (i := 12) (N := some 35) (v := ?_) (a' := ?_) #[true, true, true, true, true, true, true, true, true, true, true, true, true, false, false] rfl rfl (by kernel_rfl) (fun _ _ _ h => h) (Or.inl ⟨by rfl, ?_⟩) ?_ ?_
    rotate_left
    ·intro w'
     go_simp
     with_reducible rfl
    rotate_left
    ·simp only [Act.put, List.setIfInBounds_toArray, List.set_cons_zero, List.set_cons_succ, i64_w, i32_w]
     rfl
    refine pure_ (i := 13) (N := some 36) (v := ?_) (a' := ?_) #[true, true, true, true, true, true, true, true, true, true, true, true, true, true, false] rfl rfl (by kernel_rfl) (fun _ _ _ h => h) (Or.inl ⟨by rfl, ?_⟩) ?_ ?_
    rotate_left
    ·intro w'
     go_simp
     with_reducible rfl
    rotate_left
    ·simp only [Act.put, List.setIfInBounds_toArray, List.set_cons_zero, List.set_cons_succ, i64_w, i32_w]
     rfl
    refine pure_ (i := 14) (N := some 8) (v := ?_) (a' := ?_) #[true, true, true, true, true, true, true, true, true, true, true, true, true, true, true] rfl rfl (by kernel_rfl) (fun _ _ _ h => h) (Or.inl ⟨by rfl, ?_⟩) ?_ ?_
    rotate_left
    ·intro w'
     go_simp
     with_reducible rfl
    rotate_left
    ·simp only [Act.put, List.setIfInBounds_toArray, List.set_cons_zero, List.set_cons_succ, i64_w, i32_w]
     rfl
    refine done_ (by kernel_rfl) ?_
    have hc01 : w02.cell? ⟨g03, 1, none⟩ = some (.int .i64 a06) := blk_cellv (HS.out.at6) 1 rfl
    go_wp2_with fail
    clear hc01
    replace HS : Aside0 (Sep FF w [b14 g02 A01 l01.length n01 A02 l02.length n02, r11 A01 l01.length n01 l01, r11 A02 l02.length n02 l02, b7 g00 g01 a01 a02 a03 a04, b6 g01 A00 l00.length n00 a00, r5 A00 l00.length n00 l00, b16 g03 a05 a06 a07] w02) := ⟨(((HS.out).front 5 (by simp)).front 5 (by simp)).front 5 (by simp)⟩
    obtain ⟨t01, HA01, H⟩ := bind_some H
    rcases t01 with t02 | t03
    ·have H := sum_l H
     refine (quitrentref08_Chains_Of.calls l01 l02 a06 g02 A01 l01.length n01 A02 l02.length n02 (.inl t02) _ ⟨HS.out.begin⟩ HA01).mono ?_
     rintro e_ w03 ⟨rfl, hS⟩
     replace HS : Aside0 (Sep FF w [b14 g02 A01 l01.length n01 A02 l02.length n02, r11 A01 l01.length n01 l01, r11 A02 l02.length n02 l02, b7 g00 g01 a01 a02 a03 a04, b6 g01 A00 l00.length n00 a00, r5 A00 l00.length n00 l00, b16 g03 a05 a06 a07] w03) := ⟨HS.out.call hS⟩
     clear hS
     go_wp2_with fail
     replace HS : Aside0 (Sep FF w [b7 g00 g01 a01 a02 a03 a04, b6 g01 A00 l00.length n00 a00, r5 A00 l00.length n00 l00, b14 g02 A01 l01.length n01 A02 l02.length n02, r11 A01 l01.length n01 l01, r11 A02 l02.length n02 l02, b16 g03 a05 a06 a07] w03) := ⟨(((HS.out).front 5 (by simp)).front 5 (by simp)).front 5 (by simp)⟩
     obtain ⟨t04, HA02, H⟩ := bind_some H
     refine (ground_Ground_Meter.calls l00 a00 a01 a02 a03 a04 g00 g01 A00 l00.length n00 t04 _ ⟨HS.out.begin⟩ HA02).mono ?_
     rintro e_ w04 ⟨rfl, hS⟩
     replace HS : Aside0 (Sep FF w [b7 g00 g01 a01 a02 a03 a04, b6 g01 A00 l00.length n00 a00, r5 A00 l00.length n00 l00, b14 g02 A01 l01.length n01 A02 l02.length n02, r11 A01 l01.length n01 l01, r11 A02 l02.length n02 l02, b16 g03 a05 a06 a07] w04) := ⟨HS.out.call hS⟩
     clear hS
     by_cases c02 : a05 = 0
     ·replace H := if_yes c02 H
      have c02b0 : (a05 == 0) = true := beq_iff_eq.mpr c02
      have c02b1 : (a05 != 0) = false := bne_eq_false_iff_eq.mpr c02
      clear c02
      by_cases c03 : a07 < t00.1
      ·replace H := if_yes c03 H
       have c03b0 : decide (a07 < t00.1) = true := decide_eq_true c03
       clear c03
       have hc02 : w04.cell? ⟨g03, 0, none⟩ = some (.int .u8 a05) := blk_cellv (HS.out.at6) 0 rfl
       have hc03 : w04.cell? ⟨g03, 2, none⟩ = some (.int .i64 a07) := blk_cellv (HS.out.at6) 2 rfl
       go_wp2_with fail
       clear hc02 hc03
       replace HS : Aside0 (Sep FF w [b14 g02 A01 l01.length n01 A02 l02.length n02, r11 A01 l01.length n01 l01, r11 A02 l02.length n02 l02, b7 g00 g01 a01 a02 a03 a04, b6 g01 A00 l00.length n00 a00, r5 A00 l00.length n00 l00, b16 g03 a05 a06 a07] w04) := ⟨(((HS.out).front 5 (by simp)).front 5 (by simp)).front 5 (by simp)⟩
       obtain ⟨t05, HA03, H⟩ := bind_some H
       refine (quitrentref08_Chains_Stands.calls _ l01 l02 a07 g02 A01 l01.length n01 A02 l02.length n02 t05 _ ⟨HS.out.begin⟩ HA03).mono ?_
       rintro e_ w05 ⟨rfl, hS⟩
       replace HS : Aside0 (Sep FF w [b14 g02 A01 l01.length n01 A02 l02.length n02, r11 A01 l01.length n01 l01, r11 A02 l02.length n02 l02, b7 g00 g01 a01 a02 a03 a04, b6 g01 A00 l00.length n00 a00, r5 A00 l00.length n00 l00, b16 g03 a05 a06 a07] w05) := ⟨HS.out.call hS⟩
       clear hS
       by_cases c04 : t05 = true
       ·replace H := if_yes c04 H
        have c04b0 : t05 = true := c04
        have c04b1 : (!t05) = false := by rw [c04b0]; rfl
        clear c04
        replace HS : Aside0 (Sep FF w [b14 g02 A01 l01.length n01 A02 l02.length n02, r11 A01 l01.length n01 l01, r11 A02 l02.length n02 l02, b7 g00 g01 a01 a02 a03 a04, b6 g01 A00 l00.length n00 a00, r5 A00 l00.length n00 l00] w05) := ⟨HS.out.sub (.cons_cons _ (.cons_cons _ (.cons_cons _ (.cons_cons _ (.cons_cons _ (.cons_cons _ (.cons _ .slnil)))))))⟩
        go_wp2_with fail
        go_ret
        rw [← some_eq H]
        exact ⟨(by first | rfl | (simp [IntKind.wrap_u32]; done)), (((((((HS.out).front 2 (by simp)).front 2 (by simp)).front 2 (by simp)).front 5 (by simp)).front 5 (by simp)).front 5 (by simp)).keep (l := [b7 g00 g01 a01 a02 a03 a04, b6 g01 A00 l00.length n00 a00, r5 A00 l00.length n00 l00, b14 g02 A01 l01.length n01 A02 l02.length n02, r11 A01 l01.length n01 l01, r11 A02 l02.length n02 l02]) (rest := [])⟩
       ·replace H := if_no c04 H
        have c04b0 : t05 = false := by simpa using c04
        have c04b1 : (!t05) = true := by rw [c04b0]; rfl
        clear c04
        go_wp2_with fail
        refine start_ (n := 8) (S := (fun w' => w'.cell? ⟨g03, 1, none⟩ = some (.int .i64 a06) ∧ w'.cell? ⟨g03, 2, none⟩ = some (.int .i64 a07))) (ds := []) #[false, false, false, false, false, false, false, false] (by kernel_rfl) rfl rfl (⟨blk_cellv ((HS.out.drew).at6) 1 rfl, blk_cellv ((HS.out.drew).at6) 2 rfl⟩) (fun hHeld => ?_)
        have HS_ := Aside0.mk HS.out.drew
        clear HS
        generalize World.drew _ = w06 at HS_ hHeld ⊢
        have HS := HS_
        clear HS_
        refine pure_ (i := 0) (N := some 56) (v := ?_) (a' := ?_) #[true, false, false, false, false, false, false, false] rfl rfl (by kernel_rfl) (fun _ _ _ h => h) (Or.inl ⟨by rfl, ?_⟩) ?_ ?_
        rotate_left
        ·intro w'
         go_simp
         with_reducible rfl
        rotate_left
        ·simp only [Act.put, List.setIfInBounds_toArray, List.set_cons_zero, List.set_cons_succ, i64_w, i32_w]
         rfl
        refine pure_ (i := 1) (N := some 57) (v := ?_) (a' := ?_) #[true, true, false, false, false, false, false, false] rfl rfl (by kernel_rfl) (fun _ _ _ h => h) (Or.inl ⟨by rfl, ?_⟩) ?_ ?_
        rotate_left
        ·intro w'
         go_simp
         with_reducible rfl
        rotate_left
        ·simp only [Act.put, List.setIfInBounds_toArray, List.set_cons_zero, List.set_cons_succ, i64_w, i32_w]
         rfl
        refine pure_ (i := 3) (N := some 59) (v := ?_) (a' := ?_) #[true, true, false, true, false, false, false, false] rfl rfl (by kernel_rfl) (fun _ _ _ h => h) (Or.inl ⟨by rfl, ?_⟩) ?_ ?_
        rotate_left
        ·intro w'
         go_simp
         with_reducible rfl
        rotate_left
        ·simp only [Act.put, List.setIfInBounds_toArray, List.set_cons_zero, List.set_cons_succ, i64_w, i32_w]
         rfl
        refine pure_ (i := 4) (N := some 60) (v := ?_) (a' := ?_) #[true, true, false, true, true, false, false, false] rfl rfl (by kernel_rfl) (fun _ _ _ h => h) (Or.inl ⟨by rfl, ?_⟩) ?_ ?_
        rotate_left
        ·intro w'
         go_simp
         with_reducible rfl
        rotate_left
        ·simp only [Act.put, List.setIfInBounds_toArray, List.set_cons_zero, List.set_cons_succ, i64_w, i32_w]
         rfl
        refine take_ (i := 2) (N := some 58) (v := ?_) (a' := ?_) #[true, true, true, true, true, false, false, false] rfl rfl (by kernel_rfl) (fun _ _ _ h => h) (Or.inl ⟨by rfl, ?_⟩) hHeld ?_ ?_
        rotate_left
        ·rintro w' hS'
         obtain ⟨s0, s1⟩ := hS'
         go_simp
         with_reducible rfl
        rotate_left
        ·simp only [Act.put, List.setIfInBounds_toArray, List.set_cons_zero, List.set_cons_succ, i64_w, i32_w]
         rfl
        refine take_ (i := 5) (N := some 61) (v := ?_) (a' := ?_) #[true, true, true, true, true, true, false, false] rfl rfl (by kernel_rfl) (fun _ _ _ h => h) (Or.inl ⟨by rfl, ?_⟩) hHeld ?_ ?_
        rotate_left
        ·rintro w' hS'
         obtain ⟨s0, s1⟩ := hS'
         go_simp
         with_reducible rfl
        rotate_left
        ·simp only [Act.put, List.setIfInBounds_toArray, List.set_cons_zero, List.set_cons_succ, i64_w, i32_w]
         rfl
        refine one_ (i := 6) (N := some 62) #[true, true, true, true, true, true, true, false] rfl rfl (by kernel_rfl) (by decide) (fun K hK => ?_)
        obtain ⟨t06, HA04, H⟩ := bind_some H
        refine goes_ Try.func95 (by kernel_rfl) rfl #[.slice A01 l01.length n01, .int .i64 a07] (by rfl) rfl rfl (by (try simp only [List.map_toArray, List.map_cons, List.map_nil]); first | done | rfl) ?_
        refine (quitrentref08_Front.calls _ l01 a07 A01 n01 t06 _ ⟨Rd.ownI (l := []) HS.out 1 rfl⟩ ⟨Sep.start _⟩ HA04).mono ?_
        rintro e_ w07 ⟨A05, m05, n05, rfl, hS⟩
        replace HS : Aside0 (Sep FF w [r11 A05 m05 n05 t06, b14 g02 A01 l01.length n01 A02 l02.length n02, r11 A01 l01.length n01 l01, r11 A02 l02.length n02 l02, b7 g00 g01 a01 a02 a03 a04, b6 g01 A00 l00.length n00 a00, r5 A00 l00.length n00 l00, b16 g03 a05 a06 a07] w07) := ⟨HS.out.call hS⟩
        clear hS
        obtain rfl := (row_len (HS.out.at0)).symm
        refine ⟨_, rfl, ?_⟩
        refine hK.out _ _ (⟨blk_cellv (HS.out.at7) 1 rfl, blk_cellv (HS.out.at7) 2 rfl⟩) (fun hHeld => ?_)
        clear hK K
        refine norm_ (a' := ?_) ?_ ?_
        rotate_left
        ·show Act.put _ (some 62) _ = _
         simp only [Act.put, List.setIfInBounds_toArray, List.set_cons_zero, List.set_cons_succ, i64_w, i32_w]
         rfl
        refine one_ (i := 7) (N := some 63) #[true, true, true, true, true, true, true, true] rfl rfl (by kernel_rfl) (by decide) (fun K hK => ?_)
        replace HS : Aside0 (Sep FF w [b14 g02 A01 l01.length n01 A02 l02.length n02, r11 A01 l01.length n01 l01, r11 A02 l02.length n02 l02, r11 A05 t06.length n05 t06, b7 g00 g01 a01 a02 a03 a04, b6 g01 A00 l00.length n00 a00, r5 A00 l00.length n00 l00, b16 g03 a05 a06 a07] w07) := ⟨(((HS.out).front 3 (by simp)).front 3 (by simp)).front 3 (by simp)⟩
        obtain ⟨t07, HA05, H⟩ := bind_some H
        rcases t07 with t08 | t09
        ·have H := sum_l H
         refine goes_ Try.func94 (by kernel_rfl) rfl #[.pointer (some ⟨g02, 0, none⟩), .int .i64 a06, .slice A05 t06.length n05] (by rfl) rfl rfl (by (try simp only [List.map_toArray, List.map_cons, List.map_nil]); first | done | rfl) ?_
         refine (quitrentref08_Chains_Set_1.calls l01 l02 a06 t06 g02 A01 l01.length n01 A02 l02.length n02 A05 t06.length n05 (.inl t08) _ ⟨HS.out.begin⟩ HA05).mono ?_
         rintro e_ w08 ⟨rfl, hS⟩
         replace HS : Aside0 (Sep FF w [b14 g02 A05 t06.length n05 A02 l02.length n02, r11 A01 l01.length n01 l01, r11 A02 l02.length n02 l02, r11 A05 t06.length n05 t06, b7 g00 g01 a01 a02 a03 a04, b6 g01 A00 l00.length n00 a00, r5 A00 l00.length n00 l00, b16 g03 a05 a06 a07] w08) := ⟨HS.out.call hS⟩
         clear hS
         refine ⟨_, rfl, ?_⟩
         refine hK.out _ _ (⟨blk_cellv (HS.out.at7) 1 rfl, blk_cellv (HS.out.at7) 2 rfl⟩) (fun hHeld => ?_)
         clear hK K
         refine norm_ (a' := ?_) ?_ ?_
         rotate_left
         ·show Act.put _ (some 63) _ = _
          simp only [Act.put, List.setIfInBounds_toArray, List.set_cons_zero, List.set_cons_succ, i64_w, i32_w]
          rfl
         refine done_ (by kernel_rfl) ?_
         have hc04 : w08.cell? ⟨g03, 1, none⟩ = some (.int .i64 a06) := blk_cellv (HS.out.at7) 1 rfl
         have hc05 : w08.cell? ⟨g03, 2, none⟩ = some (.int .i64 a07) := blk_cellv (HS.out.at7) 2 rfl
         go_wp2_with fail
         clear hc04 hc05
         replace HS : Aside0 (Sep FF w [b7 g00 g01 a01 a02 a03 a04, b6 g01 A00 l00.length n00 a00, r5 A00 l00.length n00 l00, b14 g02 A05 t06.length n05 A02 l02.length n02, r11 A01 l01.length n01 l01, r11 A02 l02.length n02 l02, r11 A05 t06.length n05 t06, b16 g03 a05 a06 a07] w08) := ⟨(((HS.out).front 6 (by simp)).front 6 (by simp)).front 6 (by simp)⟩
         obtain ⟨t10, HA06, H⟩ := bind_some H
         refine (chain_Push.calls l00 a00 a01 a02 a03 a04 a06 a07 g00 g01 A00 l00.length n00 t10 _ ⟨HS.out.begin⟩ HA06).mono ?_
         rintro e_ w09 ⟨rfl, hS⟩
         replace HS : Aside0 (Sep FF w [b7 g00 g01 a01 a02 a03 a04, b6 g01 A00 l00.length n00 t10.2.1, r5 A00 l00.length n00 t10.2.2, b14 g02 A05 t06.length n05 A02 l02.length n02, r11 A01 l01.length n01 l01, r11 A02 l02.length n02 l02, r11 A05 t06.length n05 t06, b16 g03 a05 a06 a07] w09) := ⟨HS.out.call hS⟩
         clear hS
         by_cases c05 : t10.1 = true
         ·replace H := if_yes c05 H
          have c05b0 : t10.1 = true := c05
          have c05b1 : (!t10.1) = false := by rw [c05b0]; rfl
          clear c05
          go_wp2_with fail
          obtain ⟨t11, HA07, H⟩ := bind_some H
          refine (ground_Ground_Meter.calls t10.2.2 t10.2.1 a01 a02 a03 a04 g00 g01 A00 l00.length n00 t11 _ ⟨HS.out.begin⟩ HA07).mono ?_
          rintro e_ w10 ⟨rfl, hS⟩
          replace HS : Aside0 (Sep FF w [b7 g00 g01 a01 a02 a03 a04, b6 g01 A00 l00.length n00 t10.2.1, r5 A00 l00.length n00 t10.2.2, b14 g02 A05 t06.length n05 A02 l02.length n02, r11 A01 l01.length n01 l01, r11 A02 l02.length n02 l02, r11 A05 t06.length n05 t06, b16 g03 a05 a06 a07] w10) := ⟨HS.out.call hS⟩
          clear hS
          replace HS : Aside0 (Sep FF w [b7 g00 g01 a01 a02 a03 a04, b6 g01 A00 l00.length n00 t10.2.1, r5 A00 l00.length n00 t10.2.2, b14 g02 A05 t06.length n05 A02 l02.length n02, r11 A01 l01.length n01 l01, r11 A02 l02.length n02 l02, r11 A05 t06.length n05 t06] w10) := ⟨HS.out.sub (.cons_cons _ (.cons_cons _ (.cons_cons _ (.cons_cons _ (.cons_cons _ (.cons_cons _ (.cons_cons _ (.cons _ .slnil))))))))⟩
          go_wp2_with fail
          go_ret
          rw [← some_eq H]
          exact ⟨(by first | rfl | (simp [IntKind.wrap_u32]; done)), A05, t06.length, n05, HS.out⟩
         ·replace H := if_no c05 H
          have c05b0 : t10.1 = false := by simpa using c05
          have c05b1 : (!t10.1) = true := by rw [c05b0]; rfl
          clear c05
          replace HS : Aside0 (Sep FF w [b7 g00 g01 a01 a02 a03 a04, b6 g01 A00 l00.length n00 t10.2.1, r5 A00 l00.length n00 t10.2.2, b14 g02 A05 t06.length n05 A02 l02.length n02, r11 A01 l01.length n01 l01, r11 A02 l02.length n02 l02, r11 A05 t06.length n05 t06] w09) := ⟨HS.out.sub (.cons_cons _ (.cons_cons _ (.cons_cons _ (.cons_cons _ (.cons_cons _ (.cons_cons _ (.cons_cons _ (.cons _ .slnil))))))))⟩
          go_wp2_with fail
          go_ret
          rw [← some_eq H]
          exact ⟨(by first | rfl | (simp [IntKind.wrap_u32]; done)), A05, t06.length, n05, HS.out⟩
        ·have H := sum_r H
         exact (none_no H).elim
      ·replace H := if_no c03 H
       have c03b0 : decide (a07 < t00.1) = false := decide_eq_false c03
       clear c03
       have hc02 : w04.cell? ⟨g03, 0, none⟩ = some (.int .u8 a05) := blk_cellv (HS.out.at6) 0 rfl
       have hc06 : w04.cell? ⟨g03, 1, none⟩ = some (.int .i64 a06) := blk_cellv (HS.out.at6) 1 rfl
       have hc07 : w04.cell? ⟨g03, 2, none⟩ = some (.int .i64 a07) := blk_cellv (HS.out.at6) 2 rfl
       go_wp2_with fail
       clear hc02 hc06 hc07
       obtain ⟨t10, HA08, H⟩ := bind_some H
       refine (chain_Push.calls l00 a00 a01 a02 a03 a04 a06 a07 g00 g01 A00 l00.length n00 t10 _ ⟨HS.out.begin⟩ HA08).mono ?_
       rintro e_ w11 ⟨rfl, hS⟩
       replace HS : Aside0 (Sep FF w [b7 g00 g01 a01 a02 a03 a04, b6 g01 A00 l00.length n00 t10.2.1, r5 A00 l00.length n00 t10.2.2, b14 g02 A01 l01.length n01 A02 l02.length n02, r11 A01 l01.length n01 l01, r11 A02 l02.length n02 l02, b16 g03 a05 a06 a07] w11) := ⟨HS.out.call hS⟩
       clear hS
       by_cases c06 : t10.1 = true
       ·replace H := if_yes c06 H
        have c06b0 : t10.1 = true := c06
        have c06b1 : (!t10.1) = false := by rw [c06b0]; rfl
        clear c06
        replace HS : Aside0 (Sep FF w [b7 g00 g01 a01 a02 a03 a04, b6 g01 A00 l00.length n00 t10.2.1, r5 A00 l00.length n00 t10.2.2, b14 g02 A01 l01.length n01 A02 l02.length n02, r11 A01 l01.length n01 l01, r11 A02 l02.length n02 l02] w11) := ⟨HS.out.sub (.cons_cons _ (.cons_cons _ (.cons_cons _ (.cons_cons _ (.cons_cons _ (.cons_cons _ (.cons _ .slnil)))))))⟩
        go_wp2_with fail
        go_ret
        rw [← some_eq H]
        exact ⟨(by first | rfl | (simp [IntKind.wrap_u32]; done)), HS.out⟩
       ·replace H := if_no c06 H
        have c06b0 : t10.1 = false := by simpa using c06
        have c06b1 : (!t10.1) = true := by rw [c06b0]; rfl
        clear c06
        go_wp2_with fail
        obtain ⟨t11, HA09, H⟩ := bind_some H
        refine (ground_Ground_Meter.calls t10.2.2 t10.2.1 a01 a02 a03 a04 g00 g01 A00 l00.length n00 t11 _ ⟨HS.out.begin⟩ HA09).mono ?_
        rintro e_ w12 ⟨rfl, hS⟩
        replace HS : Aside0 (Sep FF w [b7 g00 g01 a01 a02 a03 a04, b6 g01 A00 l00.length n00 t10.2.1, r5 A00 l00.length n00 t10.2.2, b14 g02 A01 l01.length n01 A02 l02.length n02, r11 A01 l01.length n01 l01, r11 A02 l02.length n02 l02, b16 g03 a05 a06 a07] w12) := ⟨HS.out.call hS⟩
        clear hS
        replace HS : Aside0 (Sep FF w [b7 g00 g01 a01 a02 a03 a04, b6 g01 A00 l00.length n00 t10.2.1, r5 A00 l00.length n00 t10.2.2, b14 g02 A01 l01.length n01 A02 l02.length n02, r11 A01 l01.length n01 l01, r11 A02 l02.length n02 l02] w12) := ⟨HS.out.sub (.cons_cons _ (.cons_cons _ (.cons_cons _ (.cons_cons _ (.cons_cons _ (.cons_cons _ (.cons _ .slnil)))))))⟩
        go_wp2_with fail
        go_ret
        rw [← some_eq H]
        exact ⟨(by first | rfl | (simp [IntKind.wrap_u32]; done)), HS.out⟩
     ·replace H := if_no c02 H
      have c02b0 : (a05 == 0) = false := beq_eq_false_iff_ne.mpr c02
      have c02b1 : (a05 != 0) = true := bne_iff_ne.mpr c02
      clear c02
      by_cases c07 : a05 = 1
      ·replace H := if_yes c07 H
       have c07b0 : (a05 == 1) = true := beq_iff_eq.mpr c07
       have c07b1 : (a05 != 1) = false := bne_eq_false_iff_eq.mpr c07
       clear c07
       by_cases c08 : a07 < t00.1
       ·replace H := if_yes c08 H
        have c08b0 : decide (a07 < t00.1) = true := decide_eq_true c08
        clear c08
        have hc02 : w04.cell? ⟨g03, 0, none⟩ = some (.int .u8 a05) := blk_cellv (HS.out.at6) 0 rfl
        have hc08 : w04.cell? ⟨g03, 2, none⟩ = some (.int .i64 a07) := blk_cellv (HS.out.at6) 2 rfl
        go_wp2_with fail
        clear hc02 hc08
        replace HS : Aside0 (Sep FF w [b14 g02 A01 l01.length n01 A02 l02.length n02, r11 A01 l01.length n01 l01, r11 A02 l02.length n02 l02, b7 g00 g01 a01 a02 a03 a04, b6 g01 A00 l00.length n00 a00, r5 A00 l00.length n00 l00, b16 g03 a05 a06 a07] w04) := ⟨(((HS.out).front 5 (by simp)).front 5 (by simp)).front 5 (by simp)⟩
        obtain ⟨t12, HA10, H⟩ := bind_some H
        refine (quitrentref08_Chains_Stands.calls _ l01 l02 a07 g02 A01 l01.length n01 A02 l02.length n02 t12 _ ⟨HS.out.begin⟩ HA10).mono ?_
        rintro e_ w13 ⟨rfl, hS⟩
        replace HS : Aside0 (Sep FF w [b14 g02 A01 l01.length n01 A02 l02.length n02, r11 A01 l01.length n01 l01, r11 A02 l02.length n02 l02, b7 g00 g01 a01 a02 a03 a04, b6 g01 A00 l00.length n00 a00, r5 A00 l00.length n00 l00, b16 g03 a05 a06 a07] w13) := ⟨HS.out.call hS⟩
        clear hS
        by_cases c09 : t12 = true
        ·replace H := if_yes c09 H
         have c09b0 : t12 = true := c09
         have c09b1 : (!t12) = false := by rw [c09b0]; rfl
         clear c09
         replace HS : Aside0 (Sep FF w [b14 g02 A01 l01.length n01 A02 l02.length n02, r11 A01 l01.length n01 l01, r11 A02 l02.length n02 l02, b7 g00 g01 a01 a02 a03 a04, b6 g01 A00 l00.length n00 a00, r5 A00 l00.length n00 l00] w13) := ⟨HS.out.sub (.cons_cons _ (.cons_cons _ (.cons_cons _ (.cons_cons _ (.cons_cons _ (.cons_cons _ (.cons _ .slnil)))))))⟩
         go_wp2_with fail
         go_ret
         rw [← some_eq H]
         exact ⟨(by first | rfl | (simp [IntKind.wrap_u32]; done)), (((((((HS.out).front 2 (by simp)).front 2 (by simp)).front 2 (by simp)).front 5 (by simp)).front 5 (by simp)).front 5 (by simp)).keep (l := [b7 g00 g01 a01 a02 a03 a04, b6 g01 A00 l00.length n00 a00, r5 A00 l00.length n00 l00, b14 g02 A01 l01.length n01 A02 l02.length n02, r11 A01 l01.length n01 l01, r11 A02 l02.length n02 l02]) (rest := [])⟩
        ·replace H := if_no c09 H
         have c09b0 : t12 = false := by simpa using c09
         have c09b1 : (!t12) = true := by rw [c09b0]; rfl
         clear c09
         go_wp2_with fail
         refine start_ (n := 8) (S := (fun w' => w'.cell? ⟨g03, 1, none⟩ = some (.int .i64 a06) ∧ w'.cell? ⟨g03, 2, none⟩ = some (.int .i64 a07))) (ds := []) #[false, false, false, false, false, false, false, false] (by kernel_rfl) rfl rfl (⟨blk_cellv ((HS.out.drew).at6) 1 rfl, blk_cellv ((HS.out.drew).at6) 2 rfl⟩) (fun hHeld => ?_)
         have HS_ := Aside0.mk HS.out.drew
         clear HS
         generalize World.drew _ = w14 at HS_ hHeld ⊢
         have HS := HS_
         clear HS_
         refine pure_ (i := 0) (N := some 89) (v := ?_) (a' := ?_) #[true, false, false, false, false, false, false, false] rfl rfl (by kernel_rfl) (fun _ _ _ h => h) (Or.inl ⟨by rfl, ?_⟩) ?_ ?_
         rotate_left
         ·intro w'
          go_simp
          with_reducible rfl
         rotate_left
         ·simp only [Act.put, List.setIfInBounds_toArray, List.set_cons_zero, List.set_cons_succ, i64_w, i32_w]
          rfl
         refine pure_ (i := 1) (N := some 90) (v := ?_) (a' := ?_) #[true, true, false, false, false, false, false, false] rfl rfl (by kernel_rfl) (fun _ _ _ h => h) (Or.inl ⟨by rfl, ?_⟩) ?_ ?_
         rotate_left
         ·intro w'
          go_simp
          with_reducible rfl
         rotate_left
         ·simp only [Act.put, List.setIfInBounds_toArray, List.set_cons_zero, List.set_cons_succ, i64_w, i32_w]
          rfl
         refine pure_ (i := 3) (N := some 92) (v := ?_) (a' := ?_) #[true, true, false, true, false, false, false, false] rfl rfl (by kernel_rfl) (fun _ _ _ h => h) (Or.inl ⟨by rfl, ?_⟩) ?_ ?_
         rotate_left
         ·intro w'
          go_simp
          with_reducible rfl
         rotate_left
         ·simp only [Act.put, List.setIfInBounds_toArray, List.set_cons_zero, List.set_cons_succ, i64_w, i32_w]
          rfl
         refine pure_ (i := 4) (N := some 93) (v := ?_) (a' := ?_) #[true, true, false, true, true, false, false, false] rfl rfl (by kernel_rfl) (fun _ _ _ h => h) (Or.inl ⟨by rfl, ?_⟩) ?_ ?_
         rotate_left
         ·intro w'
          go_simp
          with_reducible rfl
         rotate_left
         ·simp only [Act.put, List.setIfInBounds_toArray, List.set_cons_zero, List.set_cons_succ, i64_w, i32_w]
          rfl
         refine take_ (i := 2) (N := some 91) (v := ?_) (a' := ?_) #[true, true, true, true, true, false, false, false] rfl rfl (by kernel_rfl) (fun _ _ _ h => h) (Or.inl ⟨by rfl, ?_⟩) hHeld ?_ ?_
         rotate_left
         ·rintro w' hS'
          obtain ⟨s0, s1⟩ := hS'
          go_simp
          with_reducible rfl
         rotate_left
         ·simp only [Act.put, List.setIfInBounds_toArray, List.set_cons_zero, List.set_cons_succ, i64_w, i32_w]
          rfl
         refine take_ (i := 5) (N := some 94) (v := ?_) (a' := ?_) #[true, true, true, true, true, true, false, false] rfl rfl (by kernel_rfl) (fun _ _ _ h => h) (Or.inl ⟨by rfl, ?_⟩) hHeld ?_ ?_
         rotate_left
         ·rintro w' hS'
          obtain ⟨s0, s1⟩ := hS'
          go_simp
          with_reducible rfl
         rotate_left
         ·simp only [Act.put, List.setIfInBounds_toArray, List.set_cons_zero, List.set_cons_succ, i64_w, i32_w]
          rfl
         refine one_ (i := 6) (N := some 95) #[true, true, true, true, true, true, true, false] rfl rfl (by kernel_rfl) (by decide) (fun K hK => ?_)
         obtain ⟨t13, HA11, H⟩ := bind_some H
         refine goes_ Try.func96 (by kernel_rfl) rfl #[.slice A01 l01.length n01, .int .i64 a07] (by rfl) rfl rfl (by (try simp only [List.map_toArray, List.map_cons, List.map_nil]); first | done | rfl) ?_
         refine (quitrentref08_Behind.calls _ l01 a07 A01 n01 t13 _ ⟨Rd.ownI (l := []) HS.out 1 rfl⟩ ⟨Sep.start _⟩ HA11).mono ?_
         rintro e_ w15 ⟨A06, m06, n06, rfl, hS⟩
         replace HS : Aside0 (Sep FF w [r11 A06 m06 n06 t13, b14 g02 A01 l01.length n01 A02 l02.length n02, r11 A01 l01.length n01 l01, r11 A02 l02.length n02 l02, b7 g00 g01 a01 a02 a03 a04, b6 g01 A00 l00.length n00 a00, r5 A00 l00.length n00 l00, b16 g03 a05 a06 a07] w15) := ⟨HS.out.call hS⟩
         clear hS
         obtain rfl := (row_len (HS.out.at0)).symm
         refine ⟨_, rfl, ?_⟩
         refine hK.out _ _ (⟨blk_cellv (HS.out.at7) 1 rfl, blk_cellv (HS.out.at7) 2 rfl⟩) (fun hHeld => ?_)
         clear hK K
         refine norm_ (a' := ?_) ?_ ?_
         rotate_left
         ·show Act.put _ (some 95) _ = _
          simp only [Act.put, List.setIfInBounds_toArray, List.set_cons_zero, List.set_cons_succ, i64_w, i32_w]
          rfl
         refine one_ (i := 7) (N := some 96) #[true, true, true, true, true, true, true, true] rfl rfl (by kernel_rfl) (by decide) (fun K hK => ?_)
         replace HS : Aside0 (Sep FF w [b14 g02 A01 l01.length n01 A02 l02.length n02, r11 A01 l01.length n01 l01, r11 A02 l02.length n02 l02, r11 A06 t13.length n06 t13, b7 g00 g01 a01 a02 a03 a04, b6 g01 A00 l00.length n00 a00, r5 A00 l00.length n00 l00, b16 g03 a05 a06 a07] w15) := ⟨(((HS.out).front 3 (by simp)).front 3 (by simp)).front 3 (by simp)⟩
         obtain ⟨t14, HA12, H⟩ := bind_some H
         rcases t14 with t15 | t16
         ·have H := sum_l H
          refine goes_ Try.func94 (by kernel_rfl) rfl #[.pointer (some ⟨g02, 0, none⟩), .int .i64 a06, .slice A06 t13.length n06] (by rfl) rfl rfl (by (try simp only [List.map_toArray, List.map_cons, List.map_nil]); first | done | rfl) ?_
          refine (quitrentref08_Chains_Set_1.calls l01 l02 a06 t13 g02 A01 l01.length n01 A02 l02.length n02 A06 t13.length n06 (.inl t15) _ ⟨HS.out.begin⟩ HA12).mono ?_
          rintro e_ w16 ⟨rfl, hS⟩
          replace HS : Aside0 (Sep FF w [b14 g02 A06 t13.length n06 A02 l02.length n02, r11 A01 l01.length n01 l01, r11 A02 l02.length n02 l02, r11 A06 t13.length n06 t13, b7 g00 g01 a01 a02 a03 a04, b6 g01 A00 l00.length n00 a00, r5 A00 l00.length n00 l00, b16 g03 a05 a06 a07] w16) := ⟨HS.out.call hS⟩
          clear hS
          refine ⟨_, rfl, ?_⟩
          refine hK.out _ _ (⟨blk_cellv (HS.out.at7) 1 rfl, blk_cellv (HS.out.at7) 2 rfl⟩) (fun hHeld => ?_)
          clear hK K
          refine norm_ (a' := ?_) ?_ ?_
          rotate_left
          ·show Act.put _ (some 96) _ = _
           simp only [Act.put, List.setIfInBounds_toArray, List.set_cons_zero, List.set_cons_succ, i64_w, i32_w]
           rfl
          refine done_ (by kernel_rfl) ?_
          have hc09 : w16.cell? ⟨g03, 1, none⟩ = some (.int .i64 a06) := blk_cellv (HS.out.at7) 1 rfl
          have hc10 : w16.cell? ⟨g03, 2, none⟩ = some (.int .i64 a07) := blk_cellv (HS.out.at7) 2 rfl
          go_wp2_with fail
          clear hc09 hc10
          replace HS : Aside0 (Sep FF w [b7 g00 g01 a01 a02 a03 a04, b6 g01 A00 l00.length n00 a00, r5 A00 l00.length n00 l00, b14 g02 A06 t13.length n06 A02 l02.length n02, r11 A01 l01.length n01 l01, r11 A02 l02.length n02 l02, r11 A06 t13.length n06 t13, b16 g03 a05 a06 a07] w16) := ⟨(((HS.out).front 6 (by simp)).front 6 (by simp)).front 6 (by simp)⟩
          obtain ⟨t17, HA13, H⟩ := bind_some H
          refine (chain_Add.calls l00 a00 a01 a02 a03 a04 a06 a07 g00 g01 A00 l00.length n00 t17 _ ⟨HS.out.begin⟩ HA13).mono ?_
          rintro e_ w17 ⟨rfl, hS⟩
          replace HS : Aside0 (Sep FF w [b7 g00 g01 a01 a02 a03 a04, b6 g01 A00 l00.length n00 t17.2.1, r5 A00 l00.length n00 t17.2.2, b14 g02 A06 t13.length n06 A02 l02.length n02, r11 A01 l01.length n01 l01, r11 A02 l02.length n02 l02, r11 A06 t13.length n06 t13, b16 g03 a05 a06 a07] w17) := ⟨HS.out.call hS⟩
          clear hS
          by_cases c10 : t17.1 = true
          ·replace H := if_yes c10 H
           have c10b0 : t17.1 = true := c10
           have c10b1 : (!t17.1) = false := by rw [c10b0]; rfl
           clear c10
           go_wp2_with fail
           obtain ⟨t18, HA14, H⟩ := bind_some H
           refine (ground_Ground_Meter.calls t17.2.2 t17.2.1 a01 a02 a03 a04 g00 g01 A00 l00.length n00 t18 _ ⟨HS.out.begin⟩ HA14).mono ?_
           rintro e_ w18 ⟨rfl, hS⟩
           replace HS : Aside0 (Sep FF w [b7 g00 g01 a01 a02 a03 a04, b6 g01 A00 l00.length n00 t17.2.1, r5 A00 l00.length n00 t17.2.2, b14 g02 A06 t13.length n06 A02 l02.length n02, r11 A01 l01.length n01 l01, r11 A02 l02.length n02 l02, r11 A06 t13.length n06 t13, b16 g03 a05 a06 a07] w18) := ⟨HS.out.call hS⟩
           clear hS
           replace HS : Aside0 (Sep FF w [b7 g00 g01 a01 a02 a03 a04, b6 g01 A00 l00.length n00 t17.2.1, r5 A00 l00.length n00 t17.2.2, b14 g02 A06 t13.length n06 A02 l02.length n02, r11 A01 l01.length n01 l01, r11 A02 l02.length n02 l02, r11 A06 t13.length n06 t13] w18) := ⟨HS.out.sub (.cons_cons _ (.cons_cons _ (.cons_cons _ (.cons_cons _ (.cons_cons _ (.cons_cons _ (.cons_cons _ (.cons _ .slnil))))))))⟩
           go_wp2_with fail
           go_ret
           rw [← some_eq H]
           exact ⟨(by first | rfl | (simp [IntKind.wrap_u32]; done)), A06, t13.length, n06, HS.out⟩
          ·replace H := if_no c10 H
           have c10b0 : t17.1 = false := by simpa using c10
           have c10b1 : (!t17.1) = true := by rw [c10b0]; rfl
           clear c10
           replace HS : Aside0 (Sep FF w [b7 g00 g01 a01 a02 a03 a04, b6 g01 A00 l00.length n00 t17.2.1, r5 A00 l00.length n00 t17.2.2, b14 g02 A06 t13.length n06 A02 l02.length n02, r11 A01 l01.length n01 l01, r11 A02 l02.length n02 l02, r11 A06 t13.length n06 t13] w17) := ⟨HS.out.sub (.cons_cons _ (.cons_cons _ (.cons_cons _ (.cons_cons _ (.cons_cons _ (.cons_cons _ (.cons_cons _ (.cons _ .slnil))))))))⟩
           go_wp2_with fail
           go_ret
           rw [← some_eq H]
           exact ⟨(by first | rfl | (simp [IntKind.wrap_u32]; done)), A06, t13.length, n06, HS.out⟩
         ·have H := sum_r H
          exact (none_no H).elim
       ·replace H := if_no c08 H
        have c08b0 : decide (a07 < t00.1) = false := decide_eq_false c08
        clear c08
        have hc02 : w04.cell? ⟨g03, 0, none⟩ = some (.int .u8 a05) := blk_cellv (HS.out.at6) 0 rfl
        have hc11 : w04.cell? ⟨g03, 1, none⟩ = some (.int .i64 a06) := blk_cellv (HS.out.at6) 1 rfl
        have hc12 : w04.cell? ⟨g03, 2, none⟩ = some (.int .i64 a07) := blk_cellv (HS.out.at6) 2 rfl
        go_wp2_with fail
        clear hc02 hc11 hc12
        obtain ⟨t17, HA15, H⟩ := bind_some H
        refine (chain_Add.calls l00 a00 a01 a02 a03 a04 a06 a07 g00 g01 A00 l00.length n00 t17 _ ⟨HS.out.begin⟩ HA15).mono ?_
        rintro e_ w19 ⟨rfl, hS⟩
        replace HS : Aside0 (Sep FF w [b7 g00 g01 a01 a02 a03 a04, b6 g01 A00 l00.length n00 t17.2.1, r5 A00 l00.length n00 t17.2.2, b14 g02 A01 l01.length n01 A02 l02.length n02, r11 A01 l01.length n01 l01, r11 A02 l02.length n02 l02, b16 g03 a05 a06 a07] w19) := ⟨HS.out.call hS⟩
        clear hS
        by_cases c11 : t17.1 = true
        ·replace H := if_yes c11 H
         have c11b0 : t17.1 = true := c11
         have c11b1 : (!t17.1) = false := by rw [c11b0]; rfl
         clear c11
         replace HS : Aside0 (Sep FF w [b7 g00 g01 a01 a02 a03 a04, b6 g01 A00 l00.length n00 t17.2.1, r5 A00 l00.length n00 t17.2.2, b14 g02 A01 l01.length n01 A02 l02.length n02, r11 A01 l01.length n01 l01, r11 A02 l02.length n02 l02] w19) := ⟨HS.out.sub (.cons_cons _ (.cons_cons _ (.cons_cons _ (.cons_cons _ (.cons_cons _ (.cons_cons _ (.cons _ .slnil)))))))⟩
         go_wp2_with fail
         go_ret
         rw [← some_eq H]
         exact ⟨(by first | rfl | (simp [IntKind.wrap_u32]; done)), HS.out⟩
        ·replace H := if_no c11 H
         have c11b0 : t17.1 = false := by simpa using c11
         have c11b1 : (!t17.1) = true := by rw [c11b0]; rfl
         clear c11
         go_wp2_with fail
         obtain ⟨t18, HA16, H⟩ := bind_some H
         refine (ground_Ground_Meter.calls t17.2.2 t17.2.1 a01 a02 a03 a04 g00 g01 A00 l00.length n00 t18 _ ⟨HS.out.begin⟩ HA16).mono ?_
         rintro e_ w20 ⟨rfl, hS⟩
         replace HS : Aside0 (Sep FF w [b7 g00 g01 a01 a02 a03 a04, b6 g01 A00 l00.length n00 t17.2.1, r5 A00 l00.length n00 t17.2.2, b14 g02 A01 l01.length n01 A02 l02.length n02, r11 A01 l01.length n01 l01, r11 A02 l02.length n02 l02, b16 g03 a05 a06 a07] w20) := ⟨HS.out.call hS⟩
         clear hS
         replace HS : Aside0 (Sep FF w [b7 g00 g01 a01 a02 a03 a04, b6 g01 A00 l00.length n00 t17.2.1, r5 A00 l00.length n00 t17.2.2, b14 g02 A01 l01.length n01 A02 l02.length n02, r11 A01 l01.length n01 l01, r11 A02 l02.length n02 l02] w20) := ⟨HS.out.sub (.cons_cons _ (.cons_cons _ (.cons_cons _ (.cons_cons _ (.cons_cons _ (.cons_cons _ (.cons _ .slnil)))))))⟩
         go_wp2_with fail
         go_ret
         rw [← some_eq H]
         exact ⟨(by first | rfl | (simp [IntKind.wrap_u32]; done)), HS.out⟩
      ·replace H := if_no c07 H
       have c07b0 : (a05 == 1) = false := beq_eq_false_iff_ne.mpr c07
       have c07b1 : (a05 != 1) = true := bne_iff_ne.mpr c07
       clear c07
       by_cases c12 : a05 = 2
       ·replace H := if_yes c12 H
        have c12b0 : (a05 == 2) = true := beq_iff_eq.mpr c12
        have c12b1 : (a05 != 2) = false := bne_eq_false_iff_eq.mpr c12
        clear c12
        have hc02 : w04.cell? ⟨g03, 0, none⟩ = some (.int .u8 a05) := blk_cellv (HS.out.at6) 0 rfl
        have hc13 : w04.cell? ⟨g03, 1, none⟩ = some (.int .i64 a06) := blk_cellv (HS.out.at6) 1 rfl
        go_wp2_with fail
        clear hc02 hc13
        obtain ⟨t19, HA17, H⟩ := bind_some H
        refine (chain_Take.calls l00 a00 a01 a02 a03 a04 a06 g00 g01 A00 l00.length n00 t19 _ ⟨HS.out.begin⟩ HA17).mono ?_
        rintro e_ w21 ⟨rfl, hS⟩
        replace HS : Aside0 (Sep FF w [b7 g00 g01 a01 a02 a03 a04, b6 g01 A00 l00.length n00 t19.2.2.1, r5 A00 l00.length n00 t19.2.2.2, b14 g02 A01 l01.length n01 A02 l02.length n02, r11 A01 l01.length n01 l01, r11 A02 l02.length n02 l02, b16 g03 a05 a06 a07] w21) := ⟨HS.out.call hS⟩
        clear hS
        by_cases c13 : (l01.length : Int) = 0
        ·replace H := if_yes c13 H
         have c13b0 : ((l01.length : Int) == 0) = true := beq_iff_eq.mpr c13
         have c13b1 : ((l01.length : Int) != 0) = false := bne_eq_false_iff_eq.mpr c13
         clear c13
         by_cases c14 : t19.1 = 0
         ·replace H := if_yes c14 H
          have c14b0 : (t19.1 == 0) = true := beq_iff_eq.mpr c14
          have c14b1 : (t19.1 != 0) = false := bne_eq_false_iff_eq.mpr c14
          clear c14
          by_cases c15 : t19.2.1 = true
          ·replace H := if_yes c15 H
           have c15b0 : t19.2.1 = true := c15
           have c15b1 : (!t19.2.1) = false := by rw [c15b0]; rfl
           try rw [c15b1]
           clear c15
           replace HS : Aside0 (Sep FF w [b7 g00 g01 a01 a02 a03 a04, b6 g01 A00 l00.length n00 t19.2.2.1, r5 A00 l00.length n00 t19.2.2.2, b14 g02 A01 l01.length n01 A02 l02.length n02, r11 A01 l01.length n01 l01, r11 A02 l02.length n02 l02] w21) := ⟨HS.out.sub (.cons_cons _ (.cons_cons _ (.cons_cons _ (.cons_cons _ (.cons_cons _ (.cons_cons _ (.cons _ .slnil)))))))⟩
           go_wp2_with fail
           go_ret
           rw [← some_eq H]
           exact ⟨(by first | rfl | (simp [IntKind.wrap_u32]; done)), HS.out⟩
          ·replace H := if_no c15 H
           have c15b0 : t19.2.1 = false := by simpa using c15
           have c15b1 : (!t19.2.1) = true := by rw [c15b0]; rfl
           try rw [c15b1]
           clear c15
           go_wp2_with fail
           obtain ⟨t20, HA18, H⟩ := bind_some H
           refine (ground_Ground_Meter.calls t19.2.2.2 t19.2.2.1 a01 a02 a03 a04 g00 g01 A00 l00.length n00 t20 _ ⟨HS.out.begin⟩ HA18).mono ?_
           rintro e_ w22 ⟨rfl, hS⟩
           replace HS : Aside0 (Sep FF w [b7 g00 g01 a01 a02 a03 a04, b6 g01 A00 l00.length n00 t19.2.2.1, r5 A00 l00.length n00 t19.2.2.2, b14 g02 A01 l01.length n01 A02 l02.length n02, r11 A01 l01.length n01 l01, r11 A02 l02.length n02 l02, b16 g03 a05 a06 a07] w22) := ⟨HS.out.call hS⟩
           clear hS
           replace HS : Aside0 (Sep FF w [b7 g00 g01 a01 a02 a03 a04, b6 g01 A00 l00.length n00 t19.2.2.1, r5 A00 l00.length n00 t19.2.2.2, b14 g02 A01 l01.length n01 A02 l02.length n02, r11 A01 l01.length n01 l01, r11 A02 l02.length n02 l02] w22) := ⟨HS.out.sub (.cons_cons _ (.cons_cons _ (.cons_cons _ (.cons_cons _ (.cons_cons _ (.cons_cons _ (.cons _ .slnil)))))))⟩
           go_wp2_with fail
           go_ret
           rw [← some_eq H]
           exact ⟨(by first | rfl | (simp [IntKind.wrap_u32]; done)), HS.out⟩
         ·replace H := if_no c14 H
          have c14b0 : (t19.1 == 0) = false := beq_eq_false_iff_ne.mpr c14
          have c14b1 : (t19.1 != 0) = true := bne_iff_ne.mpr c14
          clear c14
          replace HS : Aside0 (Sep FF w [b7 g00 g01 a01 a02 a03 a04, b6 g01 A00 l00.length n00 t19.2.2.1, r5 A00 l00.length n00 t19.2.2.2, b14 g02 A01 l01.length n01 A02 l02.length n02, r11 A01 l01.length n01 l01, r11 A02 l02.length n02 l02] w21) := ⟨HS.out.sub (.cons_cons _ (.cons_cons _ (.cons_cons _ (.cons_cons _ (.cons_cons _ (.cons_cons _ (.cons _ .slnil)))))))⟩
          go_wp2_with fail
          go_ret
          rw [← some_eq H]
          exact ⟨(by first | rfl | (simp [IntKind.wrap_u32]; done)), HS.out⟩
        ·replace H := if_no c13 H
         have c13b0 : ((l01.length : Int) == 0) = false := beq_eq_false_iff_ne.mpr c13
         have c13b1 : ((l01.length : Int) != 0) = true := bne_iff_ne.mpr c13
         clear c13
         go_wp2_with fail
         refine start_ (n := 6) (S := (fun w' => w'.cell? ⟨g03, 1, none⟩ = some (.int .i64 a06))) (ds := []) #[false, false, false, false, false, false] (by kernel_rfl) rfl rfl (blk_cellv ((HS.out.drew).at6) 1 rfl) (fun hHeld => ?_)
         have HS_ := Aside0.mk HS.out.drew
         clear HS
         generalize World.drew _ = w23 at HS_ hHeld ⊢
         have HS := HS_
         clear HS_
         refine pure_ (i := 0) (N := some 137) (v := ?_) (a' := ?_) #[true, false, false, false, false, false] rfl rfl (by kernel_rfl) (fun _ _ _ h => h) (Or.inl ⟨by rfl, ?_⟩) ?_ ?_
         rotate_left
         ·intro w'
          go_simp
          with_reducible rfl
         rotate_left
         ·simp only [Act.put, List.setIfInBounds_toArray, List.set_cons_zero, List.set_cons_succ, i64_w, i32_w]
          rfl
         refine pure_ (i := 1) (N := some 138) (v := ?_) (a' := ?_) #[true, true, false, false, false, false] rfl rfl (by kernel_rfl) (fun _ _ _ h => h) (Or.inl ⟨by rfl, ?_⟩) ?_ ?_
         rotate_left
         ·intro w'
          go_simp
          with_reducible rfl
         rotate_left
         ·simp only [Act.put, List.setIfInBounds_toArray, List.set_cons_zero, List.set_cons_succ, i64_w, i32_w]
          rfl
         refine pure_ (i := 3) (N := some 140) (v := ?_) (a' := ?_) #[true, true, false, true, false, false] rfl rfl (by kernel_rfl) (fun _ _ _ h => h) (Or.inl ⟨by rfl, ?_⟩) ?_ ?_
         rotate_left
         ·intro w'
          go_simp
          with_reducible rfl
         rotate_left
         ·simp only [Act.put, List.setIfInBounds_toArray, List.set_cons_zero, List.set_cons_succ, i64_w, i32_w]
          rfl
         refine take_ (i := 2) (N := some 139) (v := ?_) (a' := ?_) #[true, true, true, true, false, false] rfl rfl (by kernel_rfl) (fun _ _ _ h => h) (Or.inl ⟨by rfl, ?_⟩) hHeld ?_ ?_
         rotate_left
         ·rintro w' hS'
          have s0 := hS'
          go_simp
          with_reducible rfl
         rotate_left
         ·simp only [Act.put, List.setIfInBounds_toArray, List.set_cons_zero, List.set_cons_succ, i64_w, i32_w]
          rfl
         refine one_ (i := 4) (N := some 141) #[true, true, true, true, true, false] rfl rfl (by kernel_rfl) (by decide) (fun K hK => ?_)
         obtain ⟨t21, HA19, H⟩ := bind_some H
         refine goes_ Try.func97 (by kernel_rfl) rfl #[.slice A01 l01.length n01] (by rfl) rfl rfl (by (try simp only [List.map_toArray, List.map_cons, List.map_nil]); first | done | rfl) ?_
         refine (quitrentref08_Rest.calls _ l01 A01 n01 t21 _ ⟨Rd.ownI (l := []) HS.out 4 rfl⟩ ⟨Sep.start _⟩ HA19).mono ?_
         rintro e_ w24 ⟨A07, m07, n07, rfl, hS⟩
         replace HS : Aside0 (Sep FF w [r11 A07 m07 n07 t21, b7 g00 g01 a01 a02 a03 a04, b6 g01 A00 l00.length n00 t19.2.2.1, r5 A00 l00.length n00 t19.2.2.2, b14 g02 A01 l01.length n01 A02 l02.length n02, r11 A01 l01.length n01 l01, r11 A02 l02.length n02 l02, b16 g03 a05 a06 a07] w24) := ⟨HS.out.call hS⟩
         clear hS
         obtain rfl := (row_len (HS.out.at0)).symm
         refine ⟨_, rfl, ?_⟩
         refine hK.out _ _ (blk_cellv (HS.out.at7) 1 rfl) (fun hHeld => ?_)
         clear hK K
         refine norm_ (a' := ?_) ?_ ?_
         rotate_left
         ·show Act.put _ (some 141) _ = _
          simp only [Act.put, List.setIfInBounds_toArray, List.set_cons_zero, List.set_cons_succ, i64_w, i32_w]
          rfl
         refine one_ (i := 5) (N := some 142) #[true, true, true, true, true, true] rfl rfl (by kernel_rfl) (by decide) (fun K hK => ?_)
         replace HS : Aside0 (Sep FF w [b14 g02 A01 l01.length n01 A02 l02.length n02, r11 A01 l01.length n01 l01, r11 A02 l02.length n02 l02, r11 A07 t21.length n07 t21, b7 g00 g01 a01 a02 a03 a04, b6 g01 A00 l00.length n00 t19.2.2.1, r5 A00 l00.length n00 t19.2.2.2, b16 g03 a05 a06 a07] w24) := ⟨(((HS.out).front 6 (by simp)).front 6 (by simp)).front 6 (by simp)⟩
         obtain ⟨t22, HA20, H⟩ := bind_some H
         rcases t22 with t23 | t24
         ·have H := sum_l H
          refine goes_ Try.func94 (by kernel_rfl) rfl #[.pointer (some ⟨g02, 0, none⟩), .int .i64 a06, .slice A07 t21.length n07] (by rfl) rfl rfl (by (try simp only [List.map_toArray, List.map_cons, List.map_nil]); first | done | rfl) ?_
          refine (quitrentref08_Chains_Set_1.calls l01 l02 a06 t21 g02 A01 l01.length n01 A02 l02.length n02 A07 t21.length n07 (.inl t23) _ ⟨HS.out.begin⟩ HA20).mono ?_
          rintro e_ w25 ⟨rfl, hS⟩
          replace HS : Aside0 (Sep FF w [b14 g02 A07 t21.length n07 A02 l02.length n02, r11 A01 l01.length n01 l01, r11 A02 l02.length n02 l02, r11 A07 t21.length n07 t21, b7 g00 g01 a01 a02 a03 a04, b6 g01 A00 l00.length n00 t19.2.2.1, r5 A00 l00.length n00 t19.2.2.2, b16 g03 a05 a06 a07] w25) := ⟨HS.out.call hS⟩
          clear hS
          refine ⟨_, rfl, ?_⟩
          refine hK.out _ _ (blk_cellv (HS.out.at7) 1 rfl) (fun hHeld => ?_)
          clear hK K
          refine norm_ (a' := ?_) ?_ ?_
          rotate_left
          ·show Act.put _ (some 142) _ = _
           simp only [Act.put, List.setIfInBounds_toArray, List.set_cons_zero, List.set_cons_succ, i64_w, i32_w]
           rfl
          refine done_ (by kernel_rfl) ?_
          by_cases c16 : 0 < (l01.length : Int)
          ·replace H := if_yes c16 H
           have c16b0 : decide (0 < (l01.length : Int)) = true := decide_eq_true c16
           have c16b1 : decide (0 < l01.length) = true := decide_eq_true (by omega)
           have c16p : (0 < (l01.length : Int)) = True := eq_true c16
           have c16n : (0 < l01.length) = True := eq_true (by omega)
           clear c16
           by_cases c17 : t19.1 = (rd l01 0)
           ·replace H := if_yes c17 H
            have c17b0 : (t19.1 == (rd l01 0)) = true := beq_iff_eq.mpr c17
            have c17b1 : (t19.1 != (rd l01 0)) = false := bne_eq_false_iff_eq.mpr c17
            clear c17
            by_cases c18 : t19.2.1 = true
            ·replace H := if_yes c18 H
             have c18b0 : t19.2.1 = true := c18
             have c18b1 : (!t19.2.1) = false := by rw [c18b0]; rfl
             clear c18
             replace HS : Aside0 (Sep FF w [b14 g02 A07 t21.length n07 A02 l02.length n02, r11 A01 l01.length n01 l01, r11 A02 l02.length n02 l02, r11 A07 t21.length n07 t21, b7 g00 g01 a01 a02 a03 a04, b6 g01 A00 l00.length n00 t19.2.2.1, r5 A00 l00.length n00 t19.2.2.2] w25) := ⟨HS.out.sub (.cons_cons _ (.cons_cons _ (.cons_cons _ (.cons_cons _ (.cons_cons _ (.cons_cons _ (.cons_cons _ (.cons _ .slnil))))))))⟩
             obtain ⟨g04, ea⟩ := row_at (HS.out.at1) (by have := True.intro; have := (of_decide_eq_true c16b0); omega); cases ea
             have hx00 := C_at_int (row_Ci (HS.out.at1)) 0 (by decide) (of_decide_eq_true c16b0)
             have hx01 : w25.cell? ⟨g04, 0, none⟩ = some (.int .i64 (rd l01 0)) := (row_get 0 (HS.out.at1) 0 (by decide) (of_decide_eq_true c16b0)).1
             go_wp2_with fail
             clear hx00 hx01
             replace HS : Aside0 (Sep FF w [b7 g00 g01 a01 a02 a03 a04, b6 g01 A00 l00.length n00 t19.2.2.1, r5 A00 l00.length n00 t19.2.2.2, b14 g02 A07 t21.length n07 A02 l02.length n02, r11 (some ⟨g04, 0, none⟩) l01.length n01 l01, r11 A02 l02.length n02 l02, r11 A07 t21.length n07 t21] w25) := ⟨(((HS.out).front 6 (by simp)).front 6 (by simp)).front 6 (by simp)⟩
             obtain ⟨t25, HA21, H⟩ := bind_some H
             refine (ground_Ground_SeeWord.calls t19.2.2.2 t19.2.2.1 a01 a02 a03 a04 t19.1 5 g00 g01 A00 l00.length n00 t25 _ ⟨HS.out.begin⟩ HA21).mono ?_
             rintro e_ w26 ⟨rfl, hS⟩
             replace HS : Aside0 (Sep FF w [b7 g00 g01 a01 a02 a03 a04, b6 g01 A00 l00.length n00 t19.2.2.1, r5 A00 l00.length n00 t19.2.2.2, b14 g02 A07 t21.length n07 A02 l02.length n02, r11 (some ⟨g04, 0, none⟩) l01.length n01 l01, r11 A02 l02.length n02 l02, r11 A07 t21.length n07 t21] w26) := ⟨HS.out.call hS⟩
             clear hS
             by_cases c19 : t25 = 0
             ·replace H := if_yes c19 H
              have c19b0 : (t25 == 0) = true := beq_iff_eq.mpr c19
              have c19b1 : (t25 != 0) = false := bne_eq_false_iff_eq.mpr c19
              clear c19
              go_wp2_with fail
              obtain ⟨t26, HA22, H⟩ := bind_some H
              refine (ground_Ground_Meter.calls t19.2.2.2 t19.2.2.1 a01 a02 a03 a04 g00 g01 A00 l00.length n00 t26 _ ⟨HS.out.begin⟩ HA22).mono ?_
              rintro e_ w27 ⟨rfl, hS⟩
              replace HS : Aside0 (Sep FF w [b7 g00 g01 a01 a02 a03 a04, b6 g01 A00 l00.length n00 t19.2.2.1, r5 A00 l00.length n00 t19.2.2.2, b14 g02 A07 t21.length n07 A02 l02.length n02, r11 (some ⟨g04, 0, none⟩) l01.length n01 l01, r11 A02 l02.length n02 l02, r11 A07 t21.length n07 t21] w27) := ⟨HS.out.call hS⟩
              clear hS
              go_wp2_with fail
              go_ret
              rw [← some_eq H]
              exact ⟨(by first | rfl | (simp [IntKind.wrap_u32]; done)), A07, t21.length, n07, HS.out⟩
             ·replace H := if_no c19 H
              have c19b0 : (t25 == 0) = false := beq_eq_false_iff_ne.mpr c19
              have c19b1 : (t25 != 0) = true := bne_iff_ne.mpr c19
              clear c19
              go_wp2_with fail
              go_ret
              rw [← some_eq H]
              exact ⟨(by first | rfl | (simp [IntKind.wrap_u32]; done)), A07, t21.length, n07, HS.out⟩
            ·replace H := if_no c18 H
             have c18b0 : t19.2.1 = false := by simpa using c18
             have c18b1 : (!t19.2.1) = true := by rw [c18b0]; rfl
             clear c18
             replace HS : Aside0 (Sep FF w [b14 g02 A07 t21.length n07 A02 l02.length n02, r11 A01 l01.length n01 l01, r11 A02 l02.length n02 l02, r11 A07 t21.length n07 t21, b7 g00 g01 a01 a02 a03 a04, b6 g01 A00 l00.length n00 t19.2.2.1, r5 A00 l00.length n00 t19.2.2.2] w25) := ⟨HS.out.sub (.cons_cons _ (.cons_cons _ (.cons_cons _ (.cons_cons _ (.cons_cons _ (.cons_cons _ (.cons_cons _ (.cons _ .slnil))))))))⟩
             obtain ⟨g04, ea⟩ := row_at (HS.out.at1) (by have := True.intro; have := (of_decide_eq_true c16b0); omega); cases ea
             have hx00 := C_at_int (row_Ci (HS.out.at1)) 0 (by decide) (of_decide_eq_true c16b0)
             have hx01 : w25.cell? ⟨g04, 0, none⟩ = some (.int .i64 (rd l01 0)) := (row_get 0 (HS.out.at1) 0 (by decide) (of_decide_eq_true c16b0)).1
             go_wp2_with fail
             clear hx00 hx01
             go_ret
             rw [← some_eq H]
             exact ⟨(by first | rfl | (simp [IntKind.wrap_u32]; done)), A07, t21.length, n07, ((((((((HS.out).front 3 (by simp)).front 3 (by simp)).front 3 (by simp)).front 3 (by simp)).front 6 (by simp)).front 6 (by simp)).front 6 (by simp)).keep (l := [b7 g00 g01 a01 a02 a03 a04, b6 g01 A00 l00.length n00 t19.2.2.1, r5 A00 l00.length n00 t19.2.2.2, b14 g02 A07 t21.length n07 A02 l02.length n02, r11 (some ⟨g04, 0, none⟩) l01.length n01 l01, r11 A02 l02.length n02 l02, r11 A07 t21.length n07 t21]) (rest := [])⟩
           ·replace H := if_no c17 H
            have c17b0 : (t19.1 == (rd l01 0)) = false := beq_eq_false_iff_ne.mpr c17
            have c17b1 : (t19.1 != (rd l01 0)) = true := bne_iff_ne.mpr c17
            clear c17
            replace HS : Aside0 (Sep FF w [b14 g02 A07 t21.length n07 A02 l02.length n02, r11 A01 l01.length n01 l01, r11 A02 l02.length n02 l02, r11 A07 t21.length n07 t21, b7 g00 g01 a01 a02 a03 a04, b6 g01 A00 l00.length n00 t19.2.2.1, r5 A00 l00.length n00 t19.2.2.2] w25) := ⟨HS.out.sub (.cons_cons _ (.cons_cons _ (.cons_cons _ (.cons_cons _ (.cons_cons _ (.cons_cons _ (.cons_cons _ (.cons _ .slnil))))))))⟩
            obtain ⟨g04, ea⟩ := row_at (HS.out.at1) (by have := True.intro; have := (of_decide_eq_true c16b0); omega); cases ea
            have hx00 := C_at_int (row_Ci (HS.out.at1)) 0 (by decide) (of_decide_eq_true c16b0)
            have hx01 : w25.cell? ⟨g04, 0, none⟩ = some (.int .i64 (rd l01 0)) := (row_get 0 (HS.out.at1) 0 (by decide) (of_decide_eq_true c16b0)).1
            go_wp2_with fail
            clear hx00 hx01
            go_ret
            rw [← some_eq H]
            exact ⟨(by first | rfl | (simp [IntKind.wrap_u32]; done)), A07, t21.length, n07, ((((((((HS.out).front 3 (by simp)).front 3 (by simp)).front 3 (by simp)).front 3 (by simp)).front 6 (by simp)).front 6 (by simp)).front 6 (by simp)).keep (l := [b7 g00 g01 a01 a02 a03 a04, b6 g01 A00 l00.length n00 t19.2.2.1, r5 A00 l00.length n00 t19.2.2.2, b14 g02 A07 t21.length n07 A02 l02.length n02, r11 (some ⟨g04, 0, none⟩) l01.length n01 l01, r11 A02 l02.length n02 l02, r11 A07 t21.length n07 t21]) (rest := [])⟩
          ·replace H := if_no c16 H
           have c16b0 : decide (0 < (l01.length : Int)) = false := decide_eq_false c16
           have c16b1 : decide (0 < l01.length) = false := decide_eq_false (by omega)
           clear c16
           exact (none_no H).elim
         ·have H := sum_r H
          exact (none_no H).elim
       ·replace H := if_no c12 H
        have c12b0 : (a05 == 2) = false := beq_eq_false_iff_ne.mpr c12
        have c12b1 : (a05 != 2) = true := bne_iff_ne.mpr c12
        clear c12
        have hc02 : w04.cell? ⟨g03, 0, none⟩ = some (.int .u8 a05) := blk_cellv (HS.out.at6) 0 rfl
        have hc14 : w04.cell? ⟨g03, 1, none⟩ = some (.int .i64 a06) := blk_cellv (HS.out.at6) 1 rfl
        go_wp2_with fail
        clear hc02 hc14
        obtain ⟨t27, HA23, H⟩ := bind_some H
        refine (chain_First.calls l00 a00 a01 a02 a03 a04 a06 g00 g01 A00 l00.length n00 t27 _ ⟨HS.out.begin⟩ HA23).mono ?_
        rintro e_ w28 ⟨rfl, hS⟩
        replace HS : Aside0 (Sep FF w [b7 g00 g01 a01 a02 a03 a04, b6 g01 A00 l00.length n00 t27.2.2, r5 A00 l00.length n00 l00, b14 g02 A01 l01.length n01 A02 l02.length n02, r11 A01 l01.length n01 l01, r11 A02 l02.length n02 l02, b16 g03 a05 a06 a07] w28) := ⟨HS.out.call hS⟩
        clear hS
        have hc15 : w28.cell? ⟨g03, 1, none⟩ = some (.int .i64 a06) := blk_cellv (HS.out.at6) 1 rfl
        go_wp2_with fail
        clear hc15
        obtain ⟨t28, HA24, H⟩ := bind_some H
        refine (chain_Len.calls l00 t27.2.2 a01 a02 a03 a04 a06 g00 g01 A00 l00.length n00 t28 _ ⟨HS.out.begin⟩ HA24).mono ?_
        rintro e_ w29 ⟨rfl, hS⟩
        replace HS : Aside0 (Sep FF w [b7 g00 g01 a01 a02 a03 a04, b6 g01 A00 l00.length n00 t28.2, r5 A00 l00.length n00 l00, b14 g02 A01 l01.length n01 A02 l02.length n02, r11 A01 l01.length n01 l01, r11 A02 l02.length n02 l02, b16 g03 a05 a06 a07] w29) := ⟨HS.out.call hS⟩
        clear hS
        by_cases c20 : t28.1 = (l01.length : Int)
        ·replace H := if_yes c20 H
         have c20b0 : (t28.1 == (l01.length : Int)) = true := beq_iff_eq.mpr c20
         have c20b1 : (t28.1 != (l01.length : Int)) = false := bne_eq_false_iff_eq.mpr c20
         clear c20
         by_cases c21 : t27.2.1 = true
         ·replace H := if_yes c21 H
          have c21b0 : t27.2.1 = true := c21
          have c21b1 : (!t27.2.1) = false := by rw [c21b0]; rfl
          clear c21
          by_cases c22 : (l01.length : Int) > 0
          ·replace H := if_yes c22 H
           have c22b0 : decide (0 < (l01.length : Int)) = true := decide_eq_true c22
           have c22b1 : decide (0 < l01.length) = true := decide_eq_true (by omega)
           clear c22
           by_cases c23 : 0 < (l01.length : Int)
           ·replace H := if_yes c23 H
            have c23b0 : decide (0 < (l01.length : Int)) = true := decide_eq_true c23
            have c23b1 : decide (0 < l01.length) = true := decide_eq_true (by omega)
            have c23p : (0 < (l01.length : Int)) = True := eq_true c23
            have c23n : (0 < l01.length) = True := eq_true (by omega)
            clear c23
            by_cases c24 : t27.1 = (rd l01 0)
            ·replace H := if_yes c24 H
             have c24b0 : (t27.1 == (rd l01 0)) = true := beq_iff_eq.mpr c24
             have c24b1 : (t27.1 != (rd l01 0)) = false := bne_eq_false_iff_eq.mpr c24
             clear c24
             obtain ⟨g05, ea⟩ := row_at (HS.out.at4) (by have := True.intro; have := (of_decide_eq_true c23b0); omega); cases ea
             have hx02 := C_at_int (row_Ci (HS.out.at4)) 0 (by decide) (of_decide_eq_true c23b0)
             have hx03 : w29.cell? ⟨g05, 0, none⟩ = some (.int .i64 (rd l01 0)) := (row_get 0 (HS.out.at4) 0 (by decide) (of_decide_eq_true c23b0)).1
             go_wp2_with fail
             clear hx02 hx03
             obtain ⟨t29, HA25, H⟩ := bind_some H
             refine (ground_Ground_Meter.calls l00 t28.2 a01 a02 a03 a04 g00 g01 A00 l00.length n00 t29 _ ⟨HS.out.begin⟩ HA25).mono ?_
             rintro e_ w30 ⟨rfl, hS⟩
             replace HS : Aside0 (Sep FF w [b7 g00 g01 a01 a02 a03 a04, b6 g01 A00 l00.length n00 t28.2, r5 A00 l00.length n00 l00, b14 g02 (some ⟨g05, 0, none⟩) l01.length n01 A02 l02.length n02, r11 (some ⟨g05, 0, none⟩) l01.length n01 l01, r11 A02 l02.length n02 l02, b16 g03 a05 a06 a07] w30) := ⟨HS.out.call hS⟩
             clear hS
             by_cases c25 : (IntKind.u64.wrap (t29 - t04)) > 32
             ·replace H := if_yes c25 H
              have c25b0 : decide (32 < (IntKind.u64.wrap (t29 - t04))) = true := decide_eq_true c25
              clear c25
              replace HS : Aside0 (Sep FF w [b7 g00 g01 a01 a02 a03 a04, b6 g01 A00 l00.length n00 t28.2, r5 A00 l00.length n00 l00, b14 g02 (some ⟨g05, 0, none⟩) l01.length n01 A02 l02.length n02, r11 (some ⟨g05, 0, none⟩) l01.length n01 l01, r11 A02 l02.length n02 l02] w30) := ⟨HS.out.sub (.cons_cons _ (.cons_cons _ (.cons_cons _ (.cons_cons _ (.cons_cons _ (.cons_cons _ (.cons _ .slnil)))))))⟩
              go_wp2_with fail
              go_ret
              rw [← some_eq H]
              exact ⟨(by first | rfl | (simp [IntKind.wrap_u32]; done)), HS.out⟩
             ·replace H := if_no c25 H
              have c25b0 : decide (32 < (IntKind.u64.wrap (t29 - t04))) = false := decide_eq_false c25
              clear c25
              go_wp2_with fail
              obtain ⟨t30, HA26, H⟩ := bind_some H
              refine (ground_Ground_Meter.calls l00 t28.2 a01 a02 a03 a04 g00 g01 A00 l00.length n00 t30 _ ⟨HS.out.begin⟩ HA26).mono ?_
              rintro e_ w31 ⟨rfl, hS⟩
              replace HS : Aside0 (Sep FF w [b7 g00 g01 a01 a02 a03 a04, b6 g01 A00 l00.length n00 t28.2, r5 A00 l00.length n00 l00, b14 g02 (some ⟨g05, 0, none⟩) l01.length n01 A02 l02.length n02, r11 (some ⟨g05, 0, none⟩) l01.length n01 l01, r11 A02 l02.length n02 l02, b16 g03 a05 a06 a07] w31) := ⟨HS.out.call hS⟩
              clear hS
              have hc16 : w31.cell? ⟨g03, 1, none⟩ = some (.int .i64 a06) := blk_cellv (HS.out.at6) 1 rfl
              go_wp2_with fail
              clear hc16
              obtain ⟨t31, HA27, H⟩ := bind_some H
              refine (chain_List.calls _ l00 t28.2 a01 a02 a03 a04 a06 g00 g01 A00 l00.length n00 t31 _ ⟨HS.out.begin⟩ HA27).mono ?_
              rintro e_ w32 ⟨A08, m08, n08, rfl, hS⟩
              replace HS : Aside0 (Sep FF w [b7 g00 g01 a01 a02 a03 a04, b6 g01 A00 l00.length n00 t28.2, r5 A00 l00.length n00 l00, r11 A08 m08 n08 t31, b14 g02 (some ⟨g05, 0, none⟩) l01.length n01 A02 l02.length n02, r11 (some ⟨g05, 0, none⟩) l01.length n01 l01, r11 A02 l02.length n02 l02, b16 g03 a05 a06 a07] w32) := ⟨HS.out.call hS⟩
              clear hS
              obtain rfl := (row_len (HS.out.at3)).symm
              go_wp2_with fail
              obtain ⟨t32, HA28, H⟩ := bind_some H
              refine (quitrentref01_Ints.calls _ t31 l01 A08 n08 (some ⟨g05, 0, none⟩) n01 t32 _ ⟨Rd.ownI (l := []) HS.out 3 rfl⟩ ⟨Rd.ownI (l := []) HS.out 5 rfl⟩ ⟨Sep.start _⟩ HA28).mono ?_
              rintro e_ w33 ⟨rfl, hS⟩
              replace HS : Aside0 (Sep FF w [b7 g00 g01 a01 a02 a03 a04, b6 g01 A00 l00.length n00 t28.2, r5 A00 l00.length n00 l00, r11 A08 t31.length n08 t31, b14 g02 (some ⟨g05, 0, none⟩) l01.length n01 A02 l02.length n02, r11 (some ⟨g05, 0, none⟩) l01.length n01 l01, r11 A02 l02.length n02 l02, b16 g03 a05 a06 a07] w33) := ⟨HS.out.call hS⟩
              clear hS
              by_cases c26 : t32 = true
              ·replace H := if_yes c26 H
               have c26b0 : t32 = true := c26
               have c26b1 : (!t32) = false := by rw [c26b0]; rfl
               clear c26
               go_wp2_with fail
               obtain ⟨t33, HA29, H⟩ := bind_some H
               refine (ground_Ground_Meter.calls l00 t28.2 a01 a02 a03 a04 g00 g01 A00 l00.length n00 t33 _ ⟨HS.out.begin⟩ HA29).mono ?_
               rintro e_ w34 ⟨rfl, hS⟩
               replace HS : Aside0 (Sep FF w [b7 g00 g01 a01 a02 a03 a04, b6 g01 A00 l00.length n00 t28.2, r5 A00 l00.length n00 l00, r11 A08 t31.length n08 t31, b14 g02 (some ⟨g05, 0, none⟩) l01.length n01 A02 l02.length n02, r11 (some ⟨g05, 0, none⟩) l01.length n01 l01, r11 A02 l02.length n02 l02, b16 g03 a05 a06 a07] w34) := ⟨HS.out.call hS⟩
               clear hS
               replace HS : Aside0 (Sep FF w [b7 g00 g01 a01 a02 a03 a04, b6 g01 A00 l00.length n00 t28.2, r5 A00 l00.length n00 l00, b14 g02 (some ⟨g05, 0, none⟩) l01.length n01 A02 l02.length n02, r11 (some ⟨g05, 0, none⟩) l01.length n01 l01, r11 A02 l02.length n02 l02] w34) := ⟨HS.out.sub (.cons_cons _ (.cons_cons _ (.cons_cons _ (.cons _ (.cons_cons _ (.cons_cons _ (.cons_cons _ (.cons _ .slnil))))))))⟩
               go_wp2_with fail
               go_ret
               rw [← some_eq H]
               exact ⟨(by first | rfl | (simp [IntKind.wrap_u32]; done)), HS.out⟩
              ·replace H := if_no c26 H
               have c26b0 : t32 = false := by simpa using c26
               have c26b1 : (!t32) = true := by rw [c26b0]; rfl
               clear c26
               replace HS : Aside0 (Sep FF w [b7 g00 g01 a01 a02 a03 a04, b6 g01 A00 l00.length n00 t28.2, r5 A00 l00.length n00 l00, b14 g02 (some ⟨g05, 0, none⟩) l01.length n01 A02 l02.length n02, r11 (some ⟨g05, 0, none⟩) l01.length n01 l01, r11 A02 l02.length n02 l02] w33) := ⟨HS.out.sub (.cons_cons _ (.cons_cons _ (.cons_cons _ (.cons _ (.cons_cons _ (.cons_cons _ (.cons_cons _ (.cons _ .slnil))))))))⟩
               go_wp2_with fail
               go_ret
               rw [← some_eq H]
               exact ⟨(by first | rfl | (simp [IntKind.wrap_u32]; done)), HS.out⟩
            ·replace H := if_no c24 H
             have c24b0 : (t27.1 == (rd l01 0)) = false := beq_eq_false_iff_ne.mpr c24
             have c24b1 : (t27.1 != (rd l01 0)) = true := bne_iff_ne.mpr c24
             clear c24
             obtain ⟨g05, ea⟩ := row_at (HS.out.at4) (by have := True.intro; have := (of_decide_eq_true c23b0); omega); cases ea
             have hx02 := C_at_int (row_Ci (HS.out.at4)) 0 (by decide) (of_decide_eq_true c23b0)
             have hx03 : w29.cell? ⟨g05, 0, none⟩ = some (.int .i64 (rd l01 0)) := (row_get 0 (HS.out.at4) 0 (by decide) (of_decide_eq_true c23b0)).1
             replace HS : Aside0 (Sep FF w [b7 g00 g01 a01 a02 a03 a04, b6 g01 A00 l00.length n00 t28.2, r5 A00 l00.length n00 l00, b14 g02 (some ⟨g05, 0, none⟩) l01.length n01 A02 l02.length n02, r11 (some ⟨g05, 0, none⟩) l01.length n01 l01, r11 A02 l02.length n02 l02] w29) := ⟨HS.out.sub (.cons_cons _ (.cons_cons _ (.cons_cons _ (.cons_cons _ (.cons_cons _ (.cons_cons _ (.cons _ .slnil)))))))⟩
             go_wp2_with fail
             clear hx02 hx03
             go_ret
             rw [← some_eq H]
             exact ⟨(by first | rfl | (simp [IntKind.wrap_u32]; done)), HS.out⟩
           ·replace H := if_no c23 H
            have c23b0 : decide (0 < (l01.length : Int)) = false := decide_eq_false c23
            have c23b1 : decide (0 < l01.length) = false := decide_eq_false (by omega)
            clear c23
            exact (none_no H).elim
          ·replace H := if_no c22 H
           have c22b0 : decide (0 < (l01.length : Int)) = false := decide_eq_false c22
           have c22b1 : decide (0 < l01.length) = false := decide_eq_false (by omega)
           clear c22
           replace HS : Aside0 (Sep FF w [b7 g00 g01 a01 a02 a03 a04, b6 g01 A00 l00.length n00 t28.2, r5 A00 l00.length n00 l00, b14 g02 A01 l01.length n01 A02 l02.length n02, r11 A01 l01.length n01 l01, r11 A02 l02.length n02 l02] w29) := ⟨HS.out.sub (.cons_cons _ (.cons_cons _ (.cons_cons _ (.cons_cons _ (.cons_cons _ (.cons_cons _ (.cons _ .slnil)))))))⟩
           go_wp2_with fail
           go_ret
           rw [← some_eq H]
           exact ⟨(by first | rfl | (simp [IntKind.wrap_u32]; done)), HS.out⟩
         ·replace H := if_no c21 H
          have c21b0 : t27.2.1 = false := by simpa using c21
          have c21b1 : (!t27.2.1) = true := by rw [c21b0]; rfl
          clear c21
          by_cases c27 : (l01.length : Int) > 0
          ·replace H := if_yes c27 H
           have c27b0 : decide (0 < (l01.length : Int)) = true := decide_eq_true c27
           have c27b1 : decide (0 < l01.length) = true := decide_eq_true (by omega)
           clear c27
           replace HS : Aside0 (Sep FF w [b7 g00 g01 a01 a02 a03 a04, b6 g01 A00 l00.length n00 t28.2, r5 A00 l00.length n00 l00, b14 g02 A01 l01.length n01 A02 l02.length n02, r11 A01 l01.length n01 l01, r11 A02 l02.length n02 l02] w29) := ⟨HS.out.sub (.cons_cons _ (.cons_cons _ (.cons_cons _ (.cons_cons _ (.cons_cons _ (.cons_cons _ (.cons _ .slnil)))))))⟩
           go_wp2_with fail
           go_ret
           rw [← some_eq H]
           exact ⟨(by first | rfl | (simp [IntKind.wrap_u32]; done)), HS.out⟩
          ·replace H := if_no c27 H
           have c27b0 : decide (0 < (l01.length : Int)) = false := decide_eq_false c27
           have c27b1 : decide (0 < l01.length) = false := decide_eq_false (by omega)
           clear c27
           by_cases c28 : t27.1 = 0
           ·replace H := if_yes c28 H
            have c28b0 : (t27.1 == 0) = true := beq_iff_eq.mpr c28
            have c28b1 : (t27.1 != 0) = false := bne_eq_false_iff_eq.mpr c28
            clear c28
            go_wp2_with fail
            obtain ⟨t29, HA30, H⟩ := bind_some H
            refine (ground_Ground_Meter.calls l00 t28.2 a01 a02 a03 a04 g00 g01 A00 l00.length n00 t29 _ ⟨HS.out.begin⟩ HA30).mono ?_
            rintro e_ w35 ⟨rfl, hS⟩
            replace HS : Aside0 (Sep FF w [b7 g00 g01 a01 a02 a03 a04, b6 g01 A00 l00.length n00 t28.2, r5 A00 l00.length n00 l00, b14 g02 A01 l01.length n01 A02 l02.length n02, r11 A01 l01.length n01 l01, r11 A02 l02.length n02 l02, b16 g03 a05 a06 a07] w35) := ⟨HS.out.call hS⟩
            clear hS
            by_cases c29 : (IntKind.u64.wrap (t29 - t04)) > 32
            ·replace H := if_yes c29 H
             have c29b0 : decide (32 < (IntKind.u64.wrap (t29 - t04))) = true := decide_eq_true c29
             clear c29
             replace HS : Aside0 (Sep FF w [b7 g00 g01 a01 a02 a03 a04, b6 g01 A00 l00.length n00 t28.2, r5 A00 l00.length n00 l00, b14 g02 A01 l01.length n01 A02 l02.length n02, r11 A01 l01.length n01 l01, r11 A02 l02.length n02 l02] w35) := ⟨HS.out.sub (.cons_cons _ (.cons_cons _ (.cons_cons _ (.cons_cons _ (.cons_cons _ (.cons_cons _ (.cons _ .slnil)))))))⟩
             go_wp2_with fail
             go_ret
             rw [← some_eq H]
             exact ⟨(by first | rfl | (simp [IntKind.wrap_u32]; done)), HS.out⟩
            ·replace H := if_no c29 H
             have c29b0 : decide (32 < (IntKind.u64.wrap (t29 - t04))) = false := decide_eq_false c29
             clear c29
             go_wp2_with fail
             obtain ⟨t30, HA31, H⟩ := bind_some H
             refine (ground_Ground_Meter.calls l00 t28.2 a01 a02 a03 a04 g00 g01 A00 l00.length n00 t30 _ ⟨HS.out.begin⟩ HA31).mono ?_
             rintro e_ w36 ⟨rfl, hS⟩
             replace HS : Aside0 (Sep FF w [b7 g00 g01 a01 a02 a03 a04, b6 g01 A00 l00.length n00 t28.2, r5 A00 l00.length n00 l00, b14 g02 A01 l01.length n01 A02 l02.length n02, r11 A01 l01.length n01 l01, r11 A02 l02.length n02 l02, b16 g03 a05 a06 a07] w36) := ⟨HS.out.call hS⟩
             clear hS
             have hc17 : w36.cell? ⟨g03, 1, none⟩ = some (.int .i64 a06) := blk_cellv (HS.out.at6) 1 rfl
             go_wp2_with fail
             clear hc17
             obtain ⟨t31, HA32, H⟩ := bind_some H
             refine (chain_List.calls _ l00 t28.2 a01 a02 a03 a04 a06 g00 g01 A00 l00.length n00 t31 _ ⟨HS.out.begin⟩ HA32).mono ?_
             rintro e_ w37 ⟨A09, m09, n09, rfl, hS⟩
             replace HS : Aside0 (Sep FF w [b7 g00 g01 a01 a02 a03 a04, b6 g01 A00 l00.length n00 t28.2, r5 A00 l00.length n00 l00, r11 A09 m09 n09 t31, b14 g02 A01 l01.length n01 A02 l02.length n02, r11 A01 l01.length n01 l01, r11 A02 l02.length n02 l02, b16 g03 a05 a06 a07] w37) := ⟨HS.out.call hS⟩
             clear hS
             obtain rfl := (row_len (HS.out.at3)).symm
             go_wp2_with fail
             obtain ⟨t32, HA33, H⟩ := bind_some H
             refine (quitrentref01_Ints.calls _ t31 l01 A09 n09 A01 n01 t32 _ ⟨Rd.ownI (l := []) HS.out 3 rfl⟩ ⟨Rd.ownI (l := []) HS.out 5 rfl⟩ ⟨Sep.start _⟩ HA33).mono ?_
             rintro e_ w38 ⟨rfl, hS⟩
             replace HS : Aside0 (Sep FF w [b7 g00 g01 a01 a02 a03 a04, b6 g01 A00 l00.length n00 t28.2, r5 A00 l00.length n00 l00, r11 A09 t31.length n09 t31, b14 g02 A01 l01.length n01 A02 l02.length n02, r11 A01 l01.length n01 l01, r11 A02 l02.length n02 l02, b16 g03 a05 a06 a07] w38) := ⟨HS.out.call hS⟩
             clear hS
             by_cases c30 : t32 = true
             ·replace H := if_yes c30 H
              have c30b0 : t32 = true := c30
              have c30b1 : (!t32) = false := by rw [c30b0]; rfl
              clear c30
              go_wp2_with fail
              obtain ⟨t33, HA34, H⟩ := bind_some H
              refine (ground_Ground_Meter.calls l00 t28.2 a01 a02 a03 a04 g00 g01 A00 l00.length n00 t33 _ ⟨HS.out.begin⟩ HA34).mono ?_
              rintro e_ w39 ⟨rfl, hS⟩
              replace HS : Aside0 (Sep FF w [b7 g00 g01 a01 a02 a03 a04, b6 g01 A00 l00.length n00 t28.2, r5 A00 l00.length n00 l00, r11 A09 t31.length n09 t31, b14 g02 A01 l01.length n01 A02 l02.length n02, r11 A01 l01.length n01 l01, r11 A02 l02.length n02 l02, b16 g03 a05 a06 a07] w39) := ⟨HS.out.call hS⟩
              clear hS
              replace HS : Aside0 (Sep FF w [b7 g00 g01 a01 a02 a03 a04, b6 g01 A00 l00.length n00 t28.2, r5 A00 l00.length n00 l00, b14 g02 A01 l01.length n01 A02 l02.length n02, r11 A01 l01.length n01 l01, r11 A02 l02.length n02 l02] w39) := ⟨HS.out.sub (.cons_cons _ (.cons_cons _ (.cons_cons _ (.cons _ (.cons_cons _ (.cons_cons _ (.cons_cons _ (.cons _ .slnil))))))))⟩
              go_wp2_with fail
              go_ret
              rw [← some_eq H]
              exact ⟨(by first | rfl | (simp [IntKind.wrap_u32]; done)), HS.out⟩
             ·replace H := if_no c30 H
              have c30b0 : t32 = false := by simpa using c30
              have c30b1 : (!t32) = true := by rw [c30b0]; rfl
              clear c30
              replace HS : Aside0 (Sep FF w [b7 g00 g01 a01 a02 a03 a04, b6 g01 A00 l00.length n00 t28.2, r5 A00 l00.length n00 l00, b14 g02 A01 l01.length n01 A02 l02.length n02, r11 A01 l01.length n01 l01, r11 A02 l02.length n02 l02] w38) := ⟨HS.out.sub (.cons_cons _ (.cons_cons _ (.cons_cons _ (.cons _ (.cons_cons _ (.cons_cons _ (.cons_cons _ (.cons _ .slnil))))))))⟩
              go_wp2_with fail
              go_ret
              rw [← some_eq H]
              exact ⟨(by first | rfl | (simp [IntKind.wrap_u32]; done)), HS.out⟩
           ·replace H := if_no c28 H
            have c28b0 : (t27.1 == 0) = false := beq_eq_false_iff_ne.mpr c28
            have c28b1 : (t27.1 != 0) = true := bne_iff_ne.mpr c28
            clear c28
            replace HS : Aside0 (Sep FF w [b7 g00 g01 a01 a02 a03 a04, b6 g01 A00 l00.length n00 t28.2, r5 A00 l00.length n00 l00, b14 g02 A01 l01.length n01 A02 l02.length n02, r11 A01 l01.length n01 l01, r11 A02 l02.length n02 l02] w29) := ⟨HS.out.sub (.cons_cons _ (.cons_cons _ (.cons_cons _ (.cons_cons _ (.cons_cons _ (.cons_cons _ (.cons _ .slnil)))))))⟩
            go_wp2_with fail
            go_ret
            rw [← some_eq H]
            exact ⟨(by first | rfl | (simp [IntKind.wrap_u32]; done)), HS.out⟩
        ·replace H := if_no c20 H
         have c20b0 : (t28.1 == (l01.length : Int)) = false := beq_eq_false_iff_ne.mpr c20
         have c20b1 : (t28.1 != (l01.length : Int)) = true := bne_iff_ne.mpr c20
         clear c20
         replace HS : Aside0 (Sep FF w [b7 g00 g01 a01 a02 a03 a04, b6 g01 A00 l00.length n00 t28.2, r5 A00 l00.length n00 l00, b14 g02 A01 l01.length n01 A02 l02.length n02, r11 A01 l01.length n01 l01, r11 A02 l02.length n02 l02] w29) := ⟨HS.out.sub (.cons_cons _ (.cons_cons _ (.cons_cons _ (.cons_cons _ (.cons_cons _ (.cons_cons _ (.cons _ .slnil)))))))⟩
         go_wp2_with fail
         go_ret
         rw [← some_eq H]
         exact ⟨(by first | rfl | (simp [IntKind.wrap_u32]; done)), HS.out⟩
    ·have H := sum_r H
     exact (none_no H).elim
   ·replace H := if_no c01 H
    have c01b0 : decide (0 ≤ a07) = false := decide_eq_false c01
    clear c01
    try simp only [c01b0, Bool.not_true, Bool.not_false]
    refine pure_ (i := 7) (N := some 30) (v := undef) (a' := ?_) #[true, true, true, true, true, true, true, true, false, false, false, false, false, false, false] rfl rfl (by kernel_rfl) (fun _ _ _ h => h) (Or.inr ⟨by rfl, rfl⟩) ?_ ?_
    rotate_left
    ·simp only [Act.put, List.setIfInBounds_toArray, List.set_cons_zero, List.set_cons_succ, i64_w, i32_w]
     rfl
    try simp only [c01b0, Bool.not_true, Bool.not_false]
    refine pure_ (i := 8) (N := some 31) (v := undef) (a' := ?_) #[true, true, true, true, true, true, true, true, true, false, false, false, false, false, false] rfl rfl (by kernel_rfl) (fun _ _ _ h => h) (Or.inr ⟨by rfl, rfl⟩) ?_ ?_
    rotate_left
    ·simp only [Act.put, List.setIfInBounds_toArray, List.set_cons_zero, List.set_cons_succ, i64_w, i32_w]
     rfl
    try simp only [c01b0, Bool.not_true, Bool.not_false]
    refine pure_ (i := 9) (N := some 32) (v := undef) (a' := ?_) #[true, true, true, true, true, true, true, true, true, true, false, false, false, false, false] rfl rfl (by kernel_rfl) (fun _ _ _ h => h) (Or.inr ⟨by rfl, rfl⟩) ?_ ?_
    rotate_left
    ·simp only [Act.put, List.setIfInBounds_toArray, List.set_cons_zero, List.set_cons_succ, i64_w, i32_w]
     rfl
    try simp only [c01b0, Bool.not_true, Bool.not_false]
    refine pure_ (i := 10) (N := some 33) (v := undef) (a' := ?_) #[true, true, true, true, true, true, true, true, true, true, true, false, false, false, false] rfl rfl (by kernel_rfl) (fun _ _ _ h => h) (Or.inr ⟨by rfl, rfl⟩) ?_ ?_
    rotate_left
    ·simp only [Act.put, List.setIfInBounds_toArray, List.set_cons_zero, List.set_cons_succ, i64_w, i32_w]
     rfl
    try simp only [c01b0, Bool.not_true, Bool.not_false]
    refine pure_ (i := 11) (N := some 34) (v := undef) (a' := ?_) #[true, true, true, true, true, true, true, true, true, true, true, true, false, false, false] rfl rfl (by kernel_rfl) (fun _ _ _ h => h) (Or.inr ⟨by rfl, rfl⟩) ?_ ?_
    rotate_left
    ·simp only [Act.put, List.setIfInBounds_toArray, List.set_cons_zero, List.set_cons_succ, i64_w, i32_w]
     rfl
    try simp only [c01b0, Bool.not_true, Bool.not_false]
    refine pure_ (i := 12) (N := some 35) (v := undef) (a' := ?_) #[true, true, true, true, true, true, true, true, true, true, true, true, true, false, false] rfl rfl (by kernel_rfl) (fun _ _ _ h => h) (Or.inr ⟨by rfl, rfl⟩) ?_ ?_
    rotate_left
    ·simp only [Act.put, List.setIfInBounds_toArray, List.set_cons_zero, List.set_cons_succ, i64_w, i32_w]
     rfl
    refine pure_ (i := 13) (N := some 36) (v := ?_) (a' := ?_) #[true, true, true, true, true, true, true, true, true, true, true, true, true, true, false] rfl rfl (by kernel_rfl) (fun _ _ _ h => h) (Or.inl ⟨by rfl, ?_⟩) ?_ ?_
    rotate_left
    ·intro w'
     go_simp
     with_reducible rfl
    rotate_left
    ·simp only [Act.put, List.setIfInBounds_toArray, List.set_cons_zero, List.set_cons_succ, i64_w, i32_w]
     rfl
    refine pure_ (i := 14) (N := some 8) (v := ?_) (a' := ?_) #[true, true, true, true, true, true, true, true, true, true, true, true, true, true, true] rfl rfl (by kernel_rfl) (fun _ _ _ h => h) (Or.inl ⟨by rfl, ?_⟩) ?_ ?_
    rotate_left
    ·intro w'
     go_simp
     with_reducible rfl
    rotate_left
    ·simp only [Act.put, List.setIfInBounds_toArray, List.set_cons_zero, List.set_cons_succ, i64_w, i32_w]
     rfl
    refine done_ (by kernel_rfl) ?_
    have hc18 : w01.cell? ⟨g03, 1, none⟩ = some (.int .i64 a06) := blk_cellv (HS.out.at6) 1 rfl
    go_wp2_with fail
    clear hc18
    replace HS : Aside0 (Sep FF w [b14 g02 A01 l01.length n01 A02 l02.length n02, r11 A01 l01.length n01 l01, r11 A02 l02.length n02 l02, b7 g00 g01 a01 a02 a03 a04, b6 g01 A00 l00.length n00 a00, r5 A00 l00.length n00 l00, b16 g03 a05 a06 a07] w01) := ⟨(((HS.out).front 5 (by simp)).front 5 (by simp)).front 5 (by simp)⟩
    obtain ⟨t01, HA35, H⟩ := bind_some H
    rcases t01 with t02 | t03
    ·have H := sum_l H
     refine (quitrentref08_Chains_Of.calls l01 l02 a06 g02 A01 l01.length n01 A02 l02.length n02 (.inl t02) _ ⟨HS.out.begin⟩ HA35).mono ?_
     rintro e_ w40 ⟨rfl, hS⟩
     replace HS : Aside0 (Sep FF w [b14 g02 A01 l01.length n01 A02 l02.length n02, r11 A01 l01.length n01 l01, r11 A02 l02.length n02 l02, b7 g00 g01 a01 a02 a03 a04, b6 g01 A00 l00.length n00 a00, r5 A00 l00.length n00 l00, b16 g03 a05 a06 a07] w40) := ⟨HS.out.call hS⟩
     clear hS
     go_wp2_with fail
     replace HS : Aside0 (Sep FF w [b7 g00 g01 a01 a02 a03 a04, b6 g01 A00 l00.length n00 a00, r5 A00 l00.length n00 l00, b14 g02 A01 l01.length n01 A02 l02.length n02, r11 A01 l01.length n01 l01, r11 A02 l02.length n02 l02, b16 g03 a05 a06 a07] w40) := ⟨(((HS.out).front 5 (by simp)).front 5 (by simp)).front 5 (by simp)⟩
     obtain ⟨t04, HA36, H⟩ := bind_some H
     refine (ground_Ground_Meter.calls l00 a00 a01 a02 a03 a04 g00 g01 A00 l00.length n00 t04 _ ⟨HS.out.begin⟩ HA36).mono ?_
     rintro e_ w41 ⟨rfl, hS⟩
     replace HS : Aside0 (Sep FF w [b7 g00 g01 a01 a02 a03 a04, b6 g01 A00 l00.length n00 a00, r5 A00 l00.length n00 l00, b14 g02 A01 l01.length n01 A02 l02.length n02, r11 A01 l01.length n01 l01, r11 A02 l02.length n02 l02, b16 g03 a05 a06 a07] w41) := ⟨HS.out.call hS⟩
     clear hS
     by_cases c31 : a05 = 0
     ·replace H := if_yes c31 H
      have c31b0 : (a05 == 0) = true := beq_iff_eq.mpr c31
      have c31b1 : (a05 != 0) = false := bne_eq_false_iff_eq.mpr c31
      clear c31
      have hc19 : w41.cell? ⟨g03, 0, none⟩ = some (.int .u8 a05) := blk_cellv (HS.out.at6) 0 rfl
      have hc20 : w41.cell? ⟨g03, 1, none⟩ = some (.int .i64 a06) := blk_cellv (HS.out.at6) 1 rfl
      have hc21 : w41.cell? ⟨g03, 2, none⟩ = some (.int .i64 a07) := blk_cellv (HS.out.at6) 2 rfl
      go_wp2_with fail
      clear hc19 hc20 hc21
      obtain ⟨t10, HA37, H⟩ := bind_some H
      refine (chain_Push.calls l00 a00 a01 a02 a03 a04 a06 a07 g00 g01 A00 l00.length n00 t10 _ ⟨HS.out.begin⟩ HA37).mono ?_
      rintro e_ w42 ⟨rfl, hS⟩
      replace HS : Aside0 (Sep FF w [b7 g00 g01 a01 a02 a03 a04, b6 g01 A00 l00.length n00 t10.2.1, r5 A00 l00.length n00 t10.2.2, b14 g02 A01 l01.length n01 A02 l02.length n02, r11 A01 l01.length n01 l01, r11 A02 l02.length n02 l02, b16 g03 a05 a06 a07] w42) := ⟨HS.out.call hS⟩
      clear hS
      by_cases c32 : t10.1 = true
      ·replace H := if_yes c32 H
       have c32b0 : t10.1 = true := c32
       have c32b1 : (!t10.1) = false := by rw [c32b0]; rfl
       clear c32
       replace HS : Aside0 (Sep FF w [b7 g00 g01 a01 a02 a03 a04, b6 g01 A00 l00.length n00 t10.2.1, r5 A00 l00.length n00 t10.2.2, b14 g02 A01 l01.length n01 A02 l02.length n02, r11 A01 l01.length n01 l01, r11 A02 l02.length n02 l02] w42) := ⟨HS.out.sub (.cons_cons _ (.cons_cons _ (.cons_cons _ (.cons_cons _ (.cons_cons _ (.cons_cons _ (.cons _ .slnil)))))))⟩
       go_wp2_with fail
       go_ret
       rw [← some_eq H]
       exact ⟨(by first | rfl | (simp [IntKind.wrap_u32]; done)), HS.out⟩
      ·replace H := if_no c32 H
       have c32b0 : t10.1 = false := by simpa using c32
       have c32b1 : (!t10.1) = true := by rw [c32b0]; rfl
       clear c32
       go_wp2_with fail
       obtain ⟨t11, HA38, H⟩ := bind_some H
       refine (ground_Ground_Meter.calls t10.2.2 t10.2.1 a01 a02 a03 a04 g00 g01 A00 l00.length n00 t11 _ ⟨HS.out.begin⟩ HA38).mono ?_
       rintro e_ w43 ⟨rfl, hS⟩
       replace HS : Aside0 (Sep FF w [b7 g00 g01 a01 a02 a03 a04, b6 g01 A00 l00.length n00 t10.2.1, r5 A00 l00.length n00 t10.2.2, b14 g02 A01 l01.length n01 A02 l02.length n02, r11 A01 l01.length n01 l01, r11 A02 l02.length n02 l02, b16 g03 a05 a06 a07] w43) := ⟨HS.out.call hS⟩
       clear hS
       replace HS : Aside0 (Sep FF w [b7 g00 g01 a01 a02 a03 a04, b6 g01 A00 l00.length n00 t10.2.1, r5 A00 l00.length n00 t10.2.2, b14 g02 A01 l01.length n01 A02 l02.length n02, r11 A01 l01.length n01 l01, r11 A02 l02.length n02 l02] w43) := ⟨HS.out.sub (.cons_cons _ (.cons_cons _ (.cons_cons _ (.cons_cons _ (.cons_cons _ (.cons_cons _ (.cons _ .slnil)))))))⟩
       go_wp2_with fail
       go_ret
       rw [← some_eq H]
       exact ⟨(by first | rfl | (simp [IntKind.wrap_u32]; done)), HS.out⟩
     ·replace H := if_no c31 H
      have c31b0 : (a05 == 0) = false := beq_eq_false_iff_ne.mpr c31
      have c31b1 : (a05 != 0) = true := bne_iff_ne.mpr c31
      clear c31
      by_cases c33 : a05 = 1
      ·replace H := if_yes c33 H
       have c33b0 : (a05 == 1) = true := beq_iff_eq.mpr c33
       have c33b1 : (a05 != 1) = false := bne_eq_false_iff_eq.mpr c33
       clear c33
       have hc19 : w41.cell? ⟨g03, 0, none⟩ = some (.int .u8 a05) := blk_cellv (HS.out.at6) 0 rfl
       have hc22 : w41.cell? ⟨g03, 1, none⟩ = some (.int .i64 a06) := blk_cellv (HS.out.at6) 1 rfl
       have hc23 : w41.cell? ⟨g03, 2, none⟩ = some (.int .i64 a07) := blk_cellv (HS.out.at6) 2 rfl
       go_wp2_with fail
       clear hc19 hc22 hc23
       obtain ⟨t17, HA39, H⟩ := bind_some H
       refine (chain_Add.calls l00 a00 a01 a02 a03 a04 a06 a07 g00 g01 A00 l00.length n00 t17 _ ⟨HS.out.begin⟩ HA39).mono ?_
       rintro e_ w44 ⟨rfl, hS⟩
       replace HS : Aside0 (Sep FF w [b7 g00 g01 a01 a02 a03 a04, b6 g01 A00 l00.length n00 t17.2.1, r5 A00 l00.length n00 t17.2.2, b14 g02 A01 l01.length n01 A02 l02.length n02, r11 A01 l01.length n01 l01, r11 A02 l02.length n02 l02, b16 g03 a05 a06 a07] w44) := ⟨HS.out.call hS⟩
       clear hS
       by_cases c34 : t17.1 = true
       ·replace H := if_yes c34 H
        have c34b0 : t17.1 = true := c34
        have c34b1 : (!t17.1) = false := by rw [c34b0]; rfl
        clear c34
        replace HS : Aside0 (Sep FF w [b7 g00 g01 a01 a02 a03 a04, b6 g01 A00 l00.length n00 t17.2.1, r5 A00 l00.length n00 t17.2.2, b14 g02 A01 l01.length n01 A02 l02.length n02, r11 A01 l01.length n01 l01, r11 A02 l02.length n02 l02] w44) := ⟨HS.out.sub (.cons_cons _ (.cons_cons _ (.cons_cons _ (.cons_cons _ (.cons_cons _ (.cons_cons _ (.cons _ .slnil)))))))⟩
        go_wp2_with fail
        go_ret
        rw [← some_eq H]
        exact ⟨(by first | rfl | (simp [IntKind.wrap_u32]; done)), HS.out⟩
       ·replace H := if_no c34 H
        have c34b0 : t17.1 = false := by simpa using c34
        have c34b1 : (!t17.1) = true := by rw [c34b0]; rfl
        clear c34
        go_wp2_with fail
        obtain ⟨t18, HA40, H⟩ := bind_some H
        refine (ground_Ground_Meter.calls t17.2.2 t17.2.1 a01 a02 a03 a04 g00 g01 A00 l00.length n00 t18 _ ⟨HS.out.begin⟩ HA40).mono ?_
        rintro e_ w45 ⟨rfl, hS⟩
        replace HS : Aside0 (Sep FF w [b7 g00 g01 a01 a02 a03 a04, b6 g01 A00 l00.length n00 t17.2.1, r5 A00 l00.length n00 t17.2.2, b14 g02 A01 l01.length n01 A02 l02.length n02, r11 A01 l01.length n01 l01, r11 A02 l02.length n02 l02, b16 g03 a05 a06 a07] w45) := ⟨HS.out.call hS⟩
        clear hS
        replace HS : Aside0 (Sep FF w [b7 g00 g01 a01 a02 a03 a04, b6 g01 A00 l00.length n00 t17.2.1, r5 A00 l00.length n00 t17.2.2, b14 g02 A01 l01.length n01 A02 l02.length n02, r11 A01 l01.length n01 l01, r11 A02 l02.length n02 l02] w45) := ⟨HS.out.sub (.cons_cons _ (.cons_cons _ (.cons_cons _ (.cons_cons _ (.cons_cons _ (.cons_cons _ (.cons _ .slnil)))))))⟩
        go_wp2_with fail
        go_ret
        rw [← some_eq H]
        exact ⟨(by first | rfl | (simp [IntKind.wrap_u32]; done)), HS.out⟩
      ·replace H := if_no c33 H
       have c33b0 : (a05 == 1) = false := beq_eq_false_iff_ne.mpr c33
       have c33b1 : (a05 != 1) = true := bne_iff_ne.mpr c33
       clear c33
       by_cases c35 : a05 = 2
       ·replace H := if_yes c35 H
        have c35b0 : (a05 == 2) = true := beq_iff_eq.mpr c35
        have c35b1 : (a05 != 2) = false := bne_eq_false_iff_eq.mpr c35
        clear c35
        have hc19 : w41.cell? ⟨g03, 0, none⟩ = some (.int .u8 a05) := blk_cellv (HS.out.at6) 0 rfl
        have hc24 : w41.cell? ⟨g03, 1, none⟩ = some (.int .i64 a06) := blk_cellv (HS.out.at6) 1 rfl
        go_wp2_with fail
        clear hc19 hc24
        obtain ⟨t19, HA41, H⟩ := bind_some H
        refine (chain_Take.calls l00 a00 a01 a02 a03 a04 a06 g00 g01 A00 l00.length n00 t19 _ ⟨HS.out.begin⟩ HA41).mono ?_
        rintro e_ w46 ⟨rfl, hS⟩
        replace HS : Aside0 (Sep FF w [b7 g00 g01 a01 a02 a03 a04, b6 g01 A00 l00.length n00 t19.2.2.1, r5 A00 l00.length n00 t19.2.2.2, b14 g02 A01 l01.length n01 A02 l02.length n02, r11 A01 l01.length n01 l01, r11 A02 l02.length n02 l02, b16 g03 a05 a06 a07] w46) := ⟨HS.out.call hS⟩
        clear hS
        by_cases c36 : (l01.length : Int) = 0
        ·replace H := if_yes c36 H
         have c36b0 : ((l01.length : Int) == 0) = true := beq_iff_eq.mpr c36
         have c36b1 : ((l01.length : Int) != 0) = false := bne_eq_false_iff_eq.mpr c36
         clear c36
         by_cases c37 : t19.1 = 0
         ·replace H := if_yes c37 H
          have c37b0 : (t19.1 == 0) = true := beq_iff_eq.mpr c37
          have c37b1 : (t19.1 != 0) = false := bne_eq_false_iff_eq.mpr c37
          clear c37
          by_cases c38 : t19.2.1 = true
          ·replace H := if_yes c38 H
           have c38b0 : t19.2.1 = true := c38
           have c38b1 : (!t19.2.1) = false := by rw [c38b0]; rfl
           try rw [c38b1]
           clear c38
           replace HS : Aside0 (Sep FF w [b7 g00 g01 a01 a02 a03 a04, b6 g01 A00 l00.length n00 t19.2.2.1, r5 A00 l00.length n00 t19.2.2.2, b14 g02 A01 l01.length n01 A02 l02.length n02, r11 A01 l01.length n01 l01, r11 A02 l02.length n02 l02] w46) := ⟨HS.out.sub (.cons_cons _ (.cons_cons _ (.cons_cons _ (.cons_cons _ (.cons_cons _ (.cons_cons _ (.cons _ .slnil)))))))⟩
           go_wp2_with fail
           go_ret
           rw [← some_eq H]
           exact ⟨(by first | rfl | (simp [IntKind.wrap_u32]; done)), HS.out⟩
          ·replace H := if_no c38 H
           have c38b0 : t19.2.1 = false := by simpa using c38
           have c38b1 : (!t19.2.1) = true := by rw [c38b0]; rfl
           try rw [c38b1]
           clear c38
           go_wp2_with fail
           obtain ⟨t20, HA42, H⟩ := bind_some H
           refine (ground_Ground_Meter.calls t19.2.2.2 t19.2.2.1 a01 a02 a03 a04 g00 g01 A00 l00.length n00 t20 _ ⟨HS.out.begin⟩ HA42).mono ?_
           rintro e_ w47 ⟨rfl, hS⟩
           replace HS : Aside0 (Sep FF w [b7 g00 g01 a01 a02 a03 a04, b6 g01 A00 l00.length n00 t19.2.2.1, r5 A00 l00.length n00 t19.2.2.2, b14 g02 A01 l01.length n01 A02 l02.length n02, r11 A01 l01.length n01 l01, r11 A02 l02.length n02 l02, b16 g03 a05 a06 a07] w47) := ⟨HS.out.call hS⟩
           clear hS
           replace HS : Aside0 (Sep FF w [b7 g00 g01 a01 a02 a03 a04, b6 g01 A00 l00.length n00 t19.2.2.1, r5 A00 l00.length n00 t19.2.2.2, b14 g02 A01 l01.length n01 A02 l02.length n02, r11 A01 l01.length n01 l01, r11 A02 l02.length n02 l02] w47) := ⟨HS.out.sub (.cons_cons _ (.cons_cons _ (.cons_cons _ (.cons_cons _ (.cons_cons _ (.cons_cons _ (.cons _ .slnil)))))))⟩
           go_wp2_with fail
           go_ret
           rw [← some_eq H]
           exact ⟨(by first | rfl | (simp [IntKind.wrap_u32]; done)), HS.out⟩
         ·replace H := if_no c37 H
          have c37b0 : (t19.1 == 0) = false := beq_eq_false_iff_ne.mpr c37
          have c37b1 : (t19.1 != 0) = true := bne_iff_ne.mpr c37
          clear c37
          replace HS : Aside0 (Sep FF w [b7 g00 g01 a01 a02 a03 a04, b6 g01 A00 l00.length n00 t19.2.2.1, r5 A00 l00.length n00 t19.2.2.2, b14 g02 A01 l01.length n01 A02 l02.length n02, r11 A01 l01.length n01 l01, r11 A02 l02.length n02 l02] w46) := ⟨HS.out.sub (.cons_cons _ (.cons_cons _ (.cons_cons _ (.cons_cons _ (.cons_cons _ (.cons_cons _ (.cons _ .slnil)))))))⟩
          go_wp2_with fail
          go_ret
          rw [← some_eq H]
          exact ⟨(by first | rfl | (simp [IntKind.wrap_u32]; done)), HS.out⟩
        ·replace H := if_no c36 H
         have c36b0 : ((l01.length : Int) == 0) = false := beq_eq_false_iff_ne.mpr c36
         have c36b1 : ((l01.length : Int) != 0) = true := bne_iff_ne.mpr c36
         clear c36
         go_wp2_with fail
         refine start_ (n := 6) (S := (fun w' => w'.cell? ⟨g03, 1, none⟩ = some (.int .i64 a06))) (ds := []) #[false, false, false, false, false, false] (by kernel_rfl) rfl rfl (blk_cellv ((HS.out.drew).at6) 1 rfl) (fun hHeld => ?_)
         have HS_ := Aside0.mk HS.out.drew
         clear HS
         generalize World.drew _ = w48 at HS_ hHeld ⊢
         have HS := HS_
         clear HS_
         refine pure_ (i := 0) (N := some 137) (v := ?_) (a' := ?_) #[true, false, false, false, false, false] rfl rfl (by kernel_rfl) (fun _ _ _ h => h) (Or.inl ⟨by rfl, ?_⟩) ?_ ?_
         rotate_left
         ·intro w'
          go_simp
          with_reducible rfl
         rotate_left
         ·simp only [Act.put, List.setIfInBounds_toArray, List.set_cons_zero, List.set_cons_succ, i64_w, i32_w]
          rfl
         refine pure_ (i := 1) (N := some 138) (v := ?_) (a' := ?_) #[true, true, false, false, false, false] rfl rfl (by kernel_rfl) (fun _ _ _ h => h) (Or.inl ⟨by rfl, ?_⟩) ?_ ?_
         rotate_left
         ·intro w'
          go_simp
          with_reducible rfl
         rotate_left
         ·simp only [Act.put, List.setIfInBounds_toArray, List.set_cons_zero, List.set_cons_succ, i64_w, i32_w]
          rfl
         refine pure_ (i := 3) (N := some 140) (v := ?_) (a' := ?_) #[true, true, false, true, false, false] rfl rfl (by kernel_rfl) (fun _ _ _ h => h) (Or.inl ⟨by rfl, ?_⟩) ?_ ?_
         rotate_left
         ·intro w'
          go_simp
          with_reducible rfl
         rotate_left
         ·simp only [Act.put, List.setIfInBounds_toArray, List.set_cons_zero, List.set_cons_succ, i64_w, i32_w]
          rfl
         refine take_ (i := 2) (N := some 139) (v := ?_) (a' := ?_) #[true, true, true, true, false, false] rfl rfl (by kernel_rfl) (fun _ _ _ h => h) (Or.inl ⟨by rfl, ?_⟩) hHeld ?_ ?_
         rotate_left
         ·rintro w' hS'
          have s0 := hS'
          go_simp
          with_reducible rfl
         rotate_left
         ·simp only [Act.put, List.setIfInBounds_toArray, List.set_cons_zero, List.set_cons_succ, i64_w, i32_w]
          rfl
         refine one_ (i := 4) (N := some 141) #[true, true, true, true, true, false] rfl rfl (by kernel_rfl) (by decide) (fun K hK => ?_)
         obtain ⟨t21, HA43, H⟩ := bind_some H
         refine goes_ Try.func97 (by kernel_rfl) rfl #[.slice A01 l01.length n01] (by rfl) rfl rfl (by (try simp only [List.map_toArray, List.map_cons, List.map_nil]); first | done | rfl) ?_
         refine (quitrentref08_Rest.calls _ l01 A01 n01 t21 _ ⟨Rd.ownI (l := []) HS.out 4 rfl⟩ ⟨Sep.start _⟩ HA43).mono ?_
         rintro e_ w49 ⟨A10, m10, n10, rfl, hS⟩
         replace HS : Aside0 (Sep FF w [r11 A10 m10 n10 t21, b7 g00 g01 a01 a02 a03 a04, b6 g01 A00 l00.length n00 t19.2.2.1, r5 A00 l00.length n00 t19.2.2.2, b14 g02 A01 l01.length n01 A02 l02.length n02, r11 A01 l01.length n01 l01, r11 A02 l02.length n02 l02, b16 g03 a05 a06 a07] w49) := ⟨HS.out.call hS⟩
         clear hS
         obtain rfl := (row_len (HS.out.at0)).symm
         refine ⟨_, rfl, ?_⟩
         refine hK.out _ _ (blk_cellv (HS.out.at7) 1 rfl) (fun hHeld => ?_)
         clear hK K
         refine norm_ (a' := ?_) ?_ ?_
         rotate_left
         ·show Act.put _ (some 141) _ = _
          simp only [Act.put, List.setIfInBounds_toArray, List.set_cons_zero, List.set_cons_succ, i64_w, i32_w]
          rfl
         refine one_ (i := 5) (N := some 142) #[true, true, true, true, true, true] rfl rfl (by kernel_rfl) (by decide) (fun K hK => ?_)
         replace HS : Aside0 (Sep FF w [b14 g02 A01 l01.length n01 A02 l02.length n02, r11 A01 l01.length n01 l01, r11 A02 l02.length n02 l02, r11 A10 t21.length n10 t21, b7 g00 g01 a01 a02 a03 a04, b6 g01 A00 l00.length n00 t19.2.2.1, r5 A00 l00.length n00 t19.2.2.2, b16 g03 a05 a06 a07] w49) := ⟨(((HS.out).front 6 (by simp)).front 6 (by simp)).front 6 (by simp)⟩
         obtain ⟨t22, HA44, H⟩ := bind_some H
         rcases t22 with t23 | t24
         ·have H := sum_l H
          refine goes_ Try.func94 (by kernel_rfl) rfl #[.pointer (some ⟨g02, 0, none⟩), .int .i64 a06, .slice A10 t21.length n10] (by rfl) rfl rfl (by (try simp only [List.map_toArray, List.map_cons, List.map_nil]); first | done | rfl) ?_
          refine (quitrentref08_Chains_Set_1.calls l01 l02 a06 t21 g02 A01 l01.length n01 A02 l02.length n02 A10 t21.length n10 (.inl t23) _ ⟨HS.out.begin⟩ HA44).mono ?_
          rintro e_ w50 ⟨rfl, hS⟩
          replace HS : Aside0 (Sep FF w [b14 g02 A10 t21.length n10 A02 l02.length n02, r11 A01 l01.length n01 l01, r11 A02 l02.length n02 l02, r11 A10 t21.length n10 t21, b7 g00 g01 a01 a02 a03 a04, b6 g01 A00 l00.length n00 t19.2.2.1, r5 A00 l00.length n00 t19.2.2.2, b16 g03 a05 a06 a07] w50) := ⟨HS.out.call hS⟩
          clear hS
          refine ⟨_, rfl, ?_⟩
          refine hK.out _ _ (blk_cellv (HS.out.at7) 1 rfl) (fun hHeld => ?_)
          clear hK K
          refine norm_ (a' := ?_) ?_ ?_
          rotate_left
          ·show Act.put _ (some 142) _ = _
           simp only [Act.put, List.setIfInBounds_toArray, List.set_cons_zero, List.set_cons_succ, i64_w, i32_w]
           rfl
          refine done_ (by kernel_rfl) ?_
          by_cases c39 : 0 < (l01.length : Int)
          ·replace H := if_yes c39 H
           have c39b0 : decide (0 < (l01.length : Int)) = true := decide_eq_true c39
           have c39b1 : decide (0 < l01.length) = true := decide_eq_true (by omega)
           have c39p : (0 < (l01.length : Int)) = True := eq_true c39
           have c39n : (0 < l01.length) = True := eq_true (by omega)
           clear c39
           by_cases c40 : t19.1 = (rd l01 0)
           ·replace H := if_yes c40 H
            have c40b0 : (t19.1 == (rd l01 0)) = true := beq_iff_eq.mpr c40
            have c40b1 : (t19.1 != (rd l01 0)) = false := bne_eq_false_iff_eq.mpr c40
            clear c40
            by_cases c41 : t19.2.1 = true
            ·replace H := if_yes c41 H
             have c41b0 : t19.2.1 = true := c41
             have c41b1 : (!t19.2.1) = false := by rw [c41b0]; rfl
             clear c41
             replace HS : Aside0 (Sep FF w [b14 g02 A10 t21.length n10 A02 l02.length n02, r11 A01 l01.length n01 l01, r11 A02 l02.length n02 l02, r11 A10 t21.length n10 t21, b7 g00 g01 a01 a02 a03 a04, b6 g01 A00 l00.length n00 t19.2.2.1, r5 A00 l00.length n00 t19.2.2.2] w50) := ⟨HS.out.sub (.cons_cons _ (.cons_cons _ (.cons_cons _ (.cons_cons _ (.cons_cons _ (.cons_cons _ (.cons_cons _ (.cons _ .slnil))))))))⟩
             obtain ⟨g06, ea⟩ := row_at (HS.out.at1) (by have := True.intro; have := (of_decide_eq_true c39b0); omega); cases ea
             have hx04 := C_at_int (row_Ci (HS.out.at1)) 0 (by decide) (of_decide_eq_true c39b0)
             have hx05 : w50.cell? ⟨g06, 0, none⟩ = some (.int .i64 (rd l01 0)) := (row_get 0 (HS.out.at1) 0 (by decide) (of_decide_eq_true c39b0)).1
             go_wp2_with fail
             clear hx04 hx05
             replace HS : Aside0 (Sep FF w [b7 g00 g01 a01 a02 a03 a04, b6 g01 A00 l00.length n00 t19.2.2.1, r5 A00 l00.length n00 t19.2.2.2, b14 g02 A10 t21.length n10 A02 l02.length n02, r11 (some ⟨g06, 0, none⟩) l01.length n01 l01, r11 A02 l02.length n02 l02, r11 A10 t21.length n10 t21] w50) := ⟨(((HS.out).front 6 (by simp)).front 6 (by simp)).front 6 (by simp)⟩
             obtain ⟨t25, HA45, H⟩ := bind_some H
             refine (ground_Ground_SeeWord.calls t19.2.2.2 t19.2.2.1 a01 a02 a03 a04 t19.1 5 g00 g01 A00 l00.length n00 t25 _ ⟨HS.out.begin⟩ HA45).mono ?_
             rintro e_ w51 ⟨rfl, hS⟩
             replace HS : Aside0 (Sep FF w [b7 g00 g01 a01 a02 a03 a04, b6 g01 A00 l00.length n00 t19.2.2.1, r5 A00 l00.length n00 t19.2.2.2, b14 g02 A10 t21.length n10 A02 l02.length n02, r11 (some ⟨g06, 0, none⟩) l01.length n01 l01, r11 A02 l02.length n02 l02, r11 A10 t21.length n10 t21] w51) := ⟨HS.out.call hS⟩
             clear hS
             by_cases c42 : t25 = 0
             ·replace H := if_yes c42 H
              have c42b0 : (t25 == 0) = true := beq_iff_eq.mpr c42
              have c42b1 : (t25 != 0) = false := bne_eq_false_iff_eq.mpr c42
              clear c42
              go_wp2_with fail
              obtain ⟨t26, HA46, H⟩ := bind_some H
              refine (ground_Ground_Meter.calls t19.2.2.2 t19.2.2.1 a01 a02 a03 a04 g00 g01 A00 l00.length n00 t26 _ ⟨HS.out.begin⟩ HA46).mono ?_
              rintro e_ w52 ⟨rfl, hS⟩
              replace HS : Aside0 (Sep FF w [b7 g00 g01 a01 a02 a03 a04, b6 g01 A00 l00.length n00 t19.2.2.1, r5 A00 l00.length n00 t19.2.2.2, b14 g02 A10 t21.length n10 A02 l02.length n02, r11 (some ⟨g06, 0, none⟩) l01.length n01 l01, r11 A02 l02.length n02 l02, r11 A10 t21.length n10 t21] w52) := ⟨HS.out.call hS⟩
              clear hS
              go_wp2_with fail
              go_ret
              rw [← some_eq H]
              exact ⟨(by first | rfl | (simp [IntKind.wrap_u32]; done)), A10, t21.length, n10, HS.out⟩
             ·replace H := if_no c42 H
              have c42b0 : (t25 == 0) = false := beq_eq_false_iff_ne.mpr c42
              have c42b1 : (t25 != 0) = true := bne_iff_ne.mpr c42
              clear c42
              go_wp2_with fail
              go_ret
              rw [← some_eq H]
              exact ⟨(by first | rfl | (simp [IntKind.wrap_u32]; done)), A10, t21.length, n10, HS.out⟩
            ·replace H := if_no c41 H
             have c41b0 : t19.2.1 = false := by simpa using c41
             have c41b1 : (!t19.2.1) = true := by rw [c41b0]; rfl
             clear c41
             replace HS : Aside0 (Sep FF w [b14 g02 A10 t21.length n10 A02 l02.length n02, r11 A01 l01.length n01 l01, r11 A02 l02.length n02 l02, r11 A10 t21.length n10 t21, b7 g00 g01 a01 a02 a03 a04, b6 g01 A00 l00.length n00 t19.2.2.1, r5 A00 l00.length n00 t19.2.2.2] w50) := ⟨HS.out.sub (.cons_cons _ (.cons_cons _ (.cons_cons _ (.cons_cons _ (.cons_cons _ (.cons_cons _ (.cons_cons _ (.cons _ .slnil))))))))⟩
             obtain ⟨g06, ea⟩ := row_at (HS.out.at1) (by have := True.intro; have := (of_decide_eq_true c39b0); omega); cases ea
             have hx04 := C_at_int (row_Ci (HS.out.at1)) 0 (by decide) (of_decide_eq_true c39b0)
             have hx05 : w50.cell? ⟨g06, 0, none⟩ = some (.int .i64 (rd l01 0)) := (row_get 0 (HS.out.at1) 0 (by decide) (of_decide_eq_true c39b0)).1
             go_wp2_with fail
             clear hx04 hx05
             go_ret
             rw [← some_eq H]
             exact ⟨(by first | rfl | (simp [IntKind.wrap_u32]; done)), A10, t21.length, n10, ((((((((HS.out).front 3 (by simp)).front 3 (by simp)).front 3 (by simp)).front 3 (by simp)).front 6 (by simp)).front 6 (by simp)).front 6 (by simp)).keep (l := [b7 g00 g01 a01 a02 a03 a04, b6 g01 A00 l00.length n00 t19.2.2.1, r5 A00 l00.length n00 t19.2.2.2, b14 g02 A10 t21.length n10 A02 l02.length n02, r11 (some ⟨g06, 0, none⟩) l01.length n01 l01, r11 A02 l02.length n02 l02, r11 A10 t21.length n10 t21]) (rest := [])⟩
           ·replace H := if_no c40 H
            have c40b0 : (t19.1 == (rd l01 0)) = false := beq_eq_false_iff_ne.mpr c40
            have c40b1 : (t19.1 != (rd l01 0)) = true := bne_iff_ne.mpr c40
            clear c40
            replace HS : Aside0 (Sep FF w [b14 g02 A10 t21.length n10 A02 l02.length n02, r11 A01 l01.length n01 l01, r11 A02 l02.length n02 l02, r11 A10 t21.length n10 t21, b7 g00 g01 a01 a02 a03 a04, b6 g01 A00 l00.length n00 t19.2.2.1, r5 A00 l00.length n00 t19.2.2.2] w50) := ⟨HS.out.sub (.cons_cons _ (.cons_cons _ (.cons_cons _ (.cons_cons _ (.cons_cons _ (.cons_cons _ (.cons_cons _ (.cons _ .slnil))))))))⟩
            obtain ⟨g06, ea⟩ := row_at (HS.out.at1) (by have := True.intro; have := (of_decide_eq_true c39b0); omega); cases ea
            have hx04 := C_at_int (row_Ci (HS.out.at1)) 0 (by decide) (of_decide_eq_true c39b0)
            have hx05 : w50.cell? ⟨g06, 0, none⟩ = some (.int .i64 (rd l01 0)) := (row_get 0 (HS.out.at1) 0 (by decide) (of_decide_eq_true c39b0)).1
            go_wp2_with fail
            clear hx04 hx05
            go_ret
            rw [← some_eq H]
            exact ⟨(by first | rfl | (simp [IntKind.wrap_u32]; done)), A10, t21.length, n10, ((((((((HS.out).front 3 (by simp)).front 3 (by simp)).front 3 (by simp)).front 3 (by simp)).front 6 (by simp)).front 6 (by simp)).front 6 (by simp)).keep (l := [b7 g00 g01 a01 a02 a03 a04, b6 g01 A00 l00.length n00 t19.2.2.1, r5 A00 l00.length n00 t19.2.2.2, b14 g02 A10 t21.length n10 A02 l02.length n02, r11 (some ⟨g06, 0, none⟩) l01.length n01 l01, r11 A02 l02.length n02 l02, r11 A10 t21.length n10 t21]) (rest := [])⟩
          ·replace H := if_no c39 H
           have c39b0 : decide (0 < (l01.length : Int)) = false := decide_eq_false c39
           have c39b1 : decide (0 < l01.length) = false := decide_eq_false (by omega)
           clear c39
           exact (none_no H).elim
         ·have H := sum_r H
          exact (none_no H).elim
       ·replace H := if_no c35 H
        have c35b0 : (a05 == 2) = false := beq_eq_false_iff_ne.mpr c35
        have c35b1 : (a05 != 2) = true := bne_iff_ne.mpr c35
        clear c35
        have hc19 : w41.cell? ⟨g03, 0, none⟩ = some (.int .u8 a05) := blk_cellv (HS.out.at6) 0 rfl
        have hc25 : w41.cell? ⟨g03, 1, none⟩ = some (.int .i64 a06) := blk_cellv (HS.out.at6) 1 rfl
        go_wp2_with fail
        clear hc19 hc25
        obtain ⟨t27, HA47, H⟩ := bind_some H
        refine (chain_First.calls l00 a00 a01 a02 a03 a04 a06 g00 g01 A00 l00.length n00 t27 _ ⟨HS.out.begin⟩ HA47).mono ?_
        rintro e_ w53 ⟨rfl, hS⟩
        replace HS : Aside0 (Sep FF w [b7 g00 g01 a01 a02 a03 a04, b6 g01 A00 l00.length n00 t27.2.2, r5 A00 l00.length n00 l00, b14 g02 A01 l01.length n01 A02 l02.length n02, r11 A01 l01.length n01 l01, r11 A02 l02.length n02 l02, b16 g03 a05 a06 a07] w53) := ⟨HS.out.call hS⟩
        clear hS
        have hc26 : w53.cell? ⟨g03, 1, none⟩ = some (.int .i64 a06) := blk_cellv (HS.out.at6) 1 rfl
        go_wp2_with fail
        clear hc26
        obtain ⟨t28, HA48, H⟩ := bind_some H
        refine (chain_Len.calls l00 t27.2.2 a01 a02 a03 a04 a06 g00 g01 A00 l00.length n00 t28 _ ⟨HS.out.begin⟩ HA48).mono ?_
        rintro e_ w54 ⟨rfl, hS⟩
        replace HS : Aside0 (Sep FF w [b7 g00 g01 a01 a02 a03 a04, b6 g01 A00 l00.length n00 t28.2, r5 A00 l00.length n00 l00, b14 g02 A01 l01.length n01 A02 l02.length n02, r11 A01 l01.length n01 l01, r11 A02 l02.length n02 l02, b16 g03 a05 a06 a07] w54) := ⟨HS.out.call hS⟩
        clear hS
        by_cases c43 : t28.1 = (l01.length : Int)
        ·replace H := if_yes c43 H
         have c43b0 : (t28.1 == (l01.length : Int)) = true := beq_iff_eq.mpr c43
         have c43b1 : (t28.1 != (l01.length : Int)) = false := bne_eq_false_iff_eq.mpr c43
         clear c43
         by_cases c44 : t27.2.1 = true
         ·replace H := if_yes c44 H
          have c44b0 : t27.2.1 = true := c44
          have c44b1 : (!t27.2.1) = false := by rw [c44b0]; rfl
          clear c44
          by_cases c45 : (l01.length : Int) > 0
          ·replace H := if_yes c45 H
           have c45b0 : decide (0 < (l01.length : Int)) = true := decide_eq_true c45
           have c45b1 : decide (0 < l01.length) = true := decide_eq_true (by omega)
           clear c45
           by_cases c46 : 0 < (l01.length : Int)
           ·replace H := if_yes c46 H
            have c46b0 : decide (0 < (l01.length : Int)) = true := decide_eq_true c46
            have c46b1 : decide (0 < l01.length) = true := decide_eq_true (by omega)
            have c46p : (0 < (l01.length : Int)) = True := eq_true c46
            have c46n : (0 < l01.length) = True := eq_true (by omega)
            clear c46
            by_cases c47 : t27.1 = (rd l01 0)
            ·replace H := if_yes c47 H
             have c47b0 : (t27.1 == (rd l01 0)) = true := beq_iff_eq.mpr c47
             have c47b1 : (t27.1 != (rd l01 0)) = false := bne_eq_false_iff_eq.mpr c47
             clear c47
             obtain ⟨g07, ea⟩ := row_at (HS.out.at4) (by have := True.intro; have := (of_decide_eq_true c46b0); omega); cases ea
             have hx06 := C_at_int (row_Ci (HS.out.at4)) 0 (by decide) (of_decide_eq_true c46b0)
             have hx07 : w54.cell? ⟨g07, 0, none⟩ = some (.int .i64 (rd l01 0)) := (row_get 0 (HS.out.at4) 0 (by decide) (of_decide_eq_true c46b0)).1
             go_wp2_with fail
             clear hx06 hx07
             obtain ⟨t29, HA49, H⟩ := bind_some H
             refine (ground_Ground_Meter.calls l00 t28.2 a01 a02 a03 a04 g00 g01 A00 l00.length n00 t29 _ ⟨HS.out.begin⟩ HA49).mono ?_
             rintro e_ w55 ⟨rfl, hS⟩
             replace HS : Aside0 (Sep FF w [b7 g00 g01 a01 a02 a03 a04, b6 g01 A00 l00.length n00 t28.2, r5 A00 l00.length n00 l00, b14 g02 (some ⟨g07, 0, none⟩) l01.length n01 A02 l02.length n02, r11 (some ⟨g07, 0, none⟩) l01.length n01 l01, r11 A02 l02.length n02 l02, b16 g03 a05 a06 a07] w55) := ⟨HS.out.call hS⟩
             clear hS
             by_cases c48 : (IntKind.u64.wrap (t29 - t04)) > 32
             ·replace H := if_yes c48 H
              have c48b0 : decide (32 < (IntKind.u64.wrap (t29 - t04))) = true := decide_eq_true c48
              clear c48
              replace HS : Aside0 (Sep FF w [b7 g00 g01 a01 a02 a03 a04, b6 g01 A00 l00.length n00 t28.2, r5 A00 l00.length n00 l00, b14 g02 (some ⟨g07, 0, none⟩) l01.length n01 A02 l02.length n02, r11 (some ⟨g07, 0, none⟩) l01.length n01 l01, r11 A02 l02.length n02 l02] w55) := ⟨HS.out.sub (.cons_cons _ (.cons_cons _ (.cons_cons _ (.cons_cons _ (.cons_cons _ (.cons_cons _ (.cons _ .slnil)))))))⟩
              go_wp2_with fail
              go_ret
              rw [← some_eq H]
              exact ⟨(by first | rfl | (simp [IntKind.wrap_u32]; done)), HS.out⟩
             ·replace H := if_no c48 H
              have c48b0 : decide (32 < (IntKind.u64.wrap (t29 - t04))) = false := decide_eq_false c48
              clear c48
              go_wp2_with fail
              obtain ⟨t30, HA50, H⟩ := bind_some H
              refine (ground_Ground_Meter.calls l00 t28.2 a01 a02 a03 a04 g00 g01 A00 l00.length n00 t30 _ ⟨HS.out.begin⟩ HA50).mono ?_
              rintro e_ w56 ⟨rfl, hS⟩
              replace HS : Aside0 (Sep FF w [b7 g00 g01 a01 a02 a03 a04, b6 g01 A00 l00.length n00 t28.2, r5 A00 l00.length n00 l00, b14 g02 (some ⟨g07, 0, none⟩) l01.length n01 A02 l02.length n02, r11 (some ⟨g07, 0, none⟩) l01.length n01 l01, r11 A02 l02.length n02 l02, b16 g03 a05 a06 a07] w56) := ⟨HS.out.call hS⟩
              clear hS
              have hc27 : w56.cell? ⟨g03, 1, none⟩ = some (.int .i64 a06) := blk_cellv (HS.out.at6) 1 rfl
              go_wp2_with fail
              clear hc27
              obtain ⟨t31, HA51, H⟩ := bind_some H
              refine (chain_List.calls _ l00 t28.2 a01 a02 a03 a04 a06 g00 g01 A00 l00.length n00 t31 _ ⟨HS.out.begin⟩ HA51).mono ?_
              rintro e_ w57 ⟨A11, m11, n11, rfl, hS⟩
              replace HS : Aside0 (Sep FF w [b7 g00 g01 a01 a02 a03 a04, b6 g01 A00 l00.length n00 t28.2, r5 A00 l00.length n00 l00, r11 A11 m11 n11 t31, b14 g02 (some ⟨g07, 0, none⟩) l01.length n01 A02 l02.length n02, r11 (some ⟨g07, 0, none⟩) l01.length n01 l01, r11 A02 l02.length n02 l02, b16 g03 a05 a06 a07] w57) := ⟨HS.out.call hS⟩
              clear hS
              obtain rfl := (row_len (HS.out.at3)).symm
              go_wp2_with fail
              obtain ⟨t32, HA52, H⟩ := bind_some H
              refine (quitrentref01_Ints.calls _ t31 l01 A11 n11 (some ⟨g07, 0, none⟩) n01 t32 _ ⟨Rd.ownI (l := []) HS.out 3 rfl⟩ ⟨Rd.ownI (l := []) HS.out 5 rfl⟩ ⟨Sep.start _⟩ HA52).mono ?_
              rintro e_ w58 ⟨rfl, hS⟩
              replace HS : Aside0 (Sep FF w [b7 g00 g01 a01 a02 a03 a04, b6 g01 A00 l00.length n00 t28.2, r5 A00 l00.length n00 l00, r11 A11 t31.length n11 t31, b14 g02 (some ⟨g07, 0, none⟩) l01.length n01 A02 l02.length n02, r11 (some ⟨g07, 0, none⟩) l01.length n01 l01, r11 A02 l02.length n02 l02, b16 g03 a05 a06 a07] w58) := ⟨HS.out.call hS⟩
              clear hS
              by_cases c49 : t32 = true
              ·replace H := if_yes c49 H
               have c49b0 : t32 = true := c49
               have c49b1 : (!t32) = false := by rw [c49b0]; rfl
               clear c49
               go_wp2_with fail
               obtain ⟨t33, HA53, H⟩ := bind_some H
               refine (ground_Ground_Meter.calls l00 t28.2 a01 a02 a03 a04 g00 g01 A00 l00.length n00 t33 _ ⟨HS.out.begin⟩ HA53).mono ?_
               rintro e_ w59 ⟨rfl, hS⟩
               replace HS : Aside0 (Sep FF w [b7 g00 g01 a01 a02 a03 a04, b6 g01 A00 l00.length n00 t28.2, r5 A00 l00.length n00 l00, r11 A11 t31.length n11 t31, b14 g02 (some ⟨g07, 0, none⟩) l01.length n01 A02 l02.length n02, r11 (some ⟨g07, 0, none⟩) l01.length n01 l01, r11 A02 l02.length n02 l02, b16 g03 a05 a06 a07] w59) := ⟨HS.out.call hS⟩
               clear hS
               replace HS : Aside0 (Sep FF w [b7 g00 g01 a01 a02 a03 a04, b6 g01 A00 l00.length n00 t28.2, r5 A00 l00.length n00 l00, b14 g02 (some ⟨g07, 0, none⟩) l01.length n01 A02 l02.length n02, r11 (some ⟨g07, 0, none⟩) l01.length n01 l01, r11 A02 l02.length n02 l02] w59) := ⟨HS.out.sub (.cons_cons _ (.cons_cons _ (.cons_cons _ (.cons _ (.cons_cons _ (.cons_cons _ (.cons_cons _ (.cons _ .slnil))))))))⟩
               go_wp2_with fail
               go_ret
               rw [← some_eq H]
               exact ⟨(by first | rfl | (simp [IntKind.wrap_u32]; done)), HS.out⟩
              ·replace H := if_no c49 H
               have c49b0 : t32 = false := by simpa using c49
               have c49b1 : (!t32) = true := by rw [c49b0]; rfl
               clear c49
               replace HS : Aside0 (Sep FF w [b7 g00 g01 a01 a02 a03 a04, b6 g01 A00 l00.length n00 t28.2, r5 A00 l00.length n00 l00, b14 g02 (some ⟨g07, 0, none⟩) l01.length n01 A02 l02.length n02, r11 (some ⟨g07, 0, none⟩) l01.length n01 l01, r11 A02 l02.length n02 l02] w58) := ⟨HS.out.sub (.cons_cons _ (.cons_cons _ (.cons_cons _ (.cons _ (.cons_cons _ (.cons_cons _ (.cons_cons _ (.cons _ .slnil))))))))⟩
               go_wp2_with fail
               go_ret
               rw [← some_eq H]
               exact ⟨(by first | rfl | (simp [IntKind.wrap_u32]; done)), HS.out⟩
            ·replace H := if_no c47 H
             have c47b0 : (t27.1 == (rd l01 0)) = false := beq_eq_false_iff_ne.mpr c47
             have c47b1 : (t27.1 != (rd l01 0)) = true := bne_iff_ne.mpr c47
             clear c47
             obtain ⟨g07, ea⟩ := row_at (HS.out.at4) (by have := True.intro; have := (of_decide_eq_true c46b0); omega); cases ea
             have hx06 := C_at_int (row_Ci (HS.out.at4)) 0 (by decide) (of_decide_eq_true c46b0)
             have hx07 : w54.cell? ⟨g07, 0, none⟩ = some (.int .i64 (rd l01 0)) := (row_get 0 (HS.out.at4) 0 (by decide) (of_decide_eq_true c46b0)).1
             replace HS : Aside0 (Sep FF w [b7 g00 g01 a01 a02 a03 a04, b6 g01 A00 l00.length n00 t28.2, r5 A00 l00.length n00 l00, b14 g02 (some ⟨g07, 0, none⟩) l01.length n01 A02 l02.length n02, r11 (some ⟨g07, 0, none⟩) l01.length n01 l01, r11 A02 l02.length n02 l02] w54) := ⟨HS.out.sub (.cons_cons _ (.cons_cons _ (.cons_cons _ (.cons_cons _ (.cons_cons _ (.cons_cons _ (.cons _ .slnil)))))))⟩
             go_wp2_with fail
             clear hx06 hx07
             go_ret
             rw [← some_eq H]
             exact ⟨(by first | rfl | (simp [IntKind.wrap_u32]; done)), HS.out⟩
           ·replace H := if_no c46 H
            have c46b0 : decide (0 < (l01.length : Int)) = false := decide_eq_false c46
            have c46b1 : decide (0 < l01.length) = false := decide_eq_false (by omega)
            clear c46
            exact (none_no H).elim
          ·replace H := if_no c45 H
           have c45b0 : decide (0 < (l01.length : Int)) = false := decide_eq_false c45
           have c45b1 : decide (0 < l01.length) = false := decide_eq_false (by omega)
           clear c45
           replace HS : Aside0 (Sep FF w [b7 g00 g01 a01 a02 a03 a04, b6 g01 A00 l00.length n00 t28.2, r5 A00 l00.length n00 l00, b14 g02 A01 l01.length n01 A02 l02.length n02, r11 A01 l01.length n01 l01, r11 A02 l02.length n02 l02] w54) := ⟨HS.out.sub (.cons_cons _ (.cons_cons _ (.cons_cons _ (.cons_cons _ (.cons_cons _ (.cons_cons _ (.cons _ .slnil)))))))⟩
           go_wp2_with fail
           go_ret
           rw [← some_eq H]
           exact ⟨(by first | rfl | (simp [IntKind.wrap_u32]; done)), HS.out⟩
         ·replace H := if_no c44 H
          have c44b0 : t27.2.1 = false := by simpa using c44
          have c44b1 : (!t27.2.1) = true := by rw [c44b0]; rfl
          clear c44
          by_cases c50 : (l01.length : Int) > 0
          ·replace H := if_yes c50 H
           have c50b0 : decide (0 < (l01.length : Int)) = true := decide_eq_true c50
           have c50b1 : decide (0 < l01.length) = true := decide_eq_true (by omega)
           clear c50
           replace HS : Aside0 (Sep FF w [b7 g00 g01 a01 a02 a03 a04, b6 g01 A00 l00.length n00 t28.2, r5 A00 l00.length n00 l00, b14 g02 A01 l01.length n01 A02 l02.length n02, r11 A01 l01.length n01 l01, r11 A02 l02.length n02 l02] w54) := ⟨HS.out.sub (.cons_cons _ (.cons_cons _ (.cons_cons _ (.cons_cons _ (.cons_cons _ (.cons_cons _ (.cons _ .slnil)))))))⟩
           go_wp2_with fail
           go_ret
           rw [← some_eq H]
           exact ⟨(by first | rfl | (simp [IntKind.wrap_u32]; done)), HS.out⟩
          ·replace H := if_no c50 H
           have c50b0 : decide (0 < (l01.length : Int)) = false := decide_eq_false c50
           have c50b1 : decide (0 < l01.length) = false := decide_eq_false (by omega)
           clear c50
           by_cases c51 : t27.1 = 0
           ·replace H := if_yes c51 H
            have c51b0 : (t27.1 == 0) = true := beq_iff_eq.mpr c51
            have c51b1 : (t27.1 != 0) = false := bne_eq_false_iff_eq.mpr c51
            clear c51
            go_wp2_with fail
            obtain ⟨t29, HA54, H⟩ := bind_some H
            refine (ground_Ground_Meter.calls l00 t28.2 a01 a02 a03 a04 g00 g01 A00 l00.length n00 t29 _ ⟨HS.out.begin⟩ HA54).mono ?_
            rintro e_ w60 ⟨rfl, hS⟩
            replace HS : Aside0 (Sep FF w [b7 g00 g01 a01 a02 a03 a04, b6 g01 A00 l00.length n00 t28.2, r5 A00 l00.length n00 l00, b14 g02 A01 l01.length n01 A02 l02.length n02, r11 A01 l01.length n01 l01, r11 A02 l02.length n02 l02, b16 g03 a05 a06 a07] w60) := ⟨HS.out.call hS⟩
            clear hS
            by_cases c52 : (IntKind.u64.wrap (t29 - t04)) > 32
            ·replace H := if_yes c52 H
             have c52b0 : decide (32 < (IntKind.u64.wrap (t29 - t04))) = true := decide_eq_true c52
             clear c52
             replace HS : Aside0 (Sep FF w [b7 g00 g01 a01 a02 a03 a04, b6 g01 A00 l00.length n00 t28.2, r5 A00 l00.length n00 l00, b14 g02 A01 l01.length n01 A02 l02.length n02, r11 A01 l01.length n01 l01, r11 A02 l02.length n02 l02] w60) := ⟨HS.out.sub (.cons_cons _ (.cons_cons _ (.cons_cons _ (.cons_cons _ (.cons_cons _ (.cons_cons _ (.cons _ .slnil)))))))⟩
             go_wp2_with fail
             go_ret
             rw [← some_eq H]
             exact ⟨(by first | rfl | (simp [IntKind.wrap_u32]; done)), HS.out⟩
            ·replace H := if_no c52 H
             have c52b0 : decide (32 < (IntKind.u64.wrap (t29 - t04))) = false := decide_eq_false c52
             clear c52
             go_wp2_with fail
             obtain ⟨t30, HA55, H⟩ := bind_some H
             refine (ground_Ground_Meter.calls l00 t28.2 a01 a02 a03 a04 g00 g01 A00 l00.length n00 t30 _ ⟨HS.out.begin⟩ HA55).mono ?_
             rintro e_ w61 ⟨rfl, hS⟩
             replace HS : Aside0 (Sep FF w [b7 g00 g01 a01 a02 a03 a04, b6 g01 A00 l00.length n00 t28.2, r5 A00 l00.length n00 l00, b14 g02 A01 l01.length n01 A02 l02.length n02, r11 A01 l01.length n01 l01, r11 A02 l02.length n02 l02, b16 g03 a05 a06 a07] w61) := ⟨HS.out.call hS⟩
             clear hS
             have hc28 : w61.cell? ⟨g03, 1, none⟩ = some (.int .i64 a06) := blk_cellv (HS.out.at6) 1 rfl
             go_wp2_with fail
             clear hc28
             obtain ⟨t31, HA56, H⟩ := bind_some H
             refine (chain_List.calls _ l00 t28.2 a01 a02 a03 a04 a06 g00 g01 A00 l00.length n00 t31 _ ⟨HS.out.begin⟩ HA56).mono ?_
             rintro e_ w62 ⟨A12, m12, n12, rfl, hS⟩
             replace HS : Aside0 (Sep FF w [b7 g00 g01 a01 a02 a03 a04, b6 g01 A00 l00.length n00 t28.2, r5 A00 l00.length n00 l00, r11 A12 m12 n12 t31, b14 g02 A01 l01.length n01 A02 l02.length n02, r11 A01 l01.length n01 l01, r11 A02 l02.length n02 l02, b16 g03 a05 a06 a07] w62) := ⟨HS.out.call hS⟩
             clear hS
             obtain rfl := (row_len (HS.out.at3)).symm
             go_wp2_with fail
             obtain ⟨t32, HA57, H⟩ := bind_some H
             refine (quitrentref01_Ints.calls _ t31 l01 A12 n12 A01 n01 t32 _ ⟨Rd.ownI (l := []) HS.out 3 rfl⟩ ⟨Rd.ownI (l := []) HS.out 5 rfl⟩ ⟨Sep.start _⟩ HA57).mono ?_
             rintro e_ w63 ⟨rfl, hS⟩
             replace HS : Aside0 (Sep FF w [b7 g00 g01 a01 a02 a03 a04, b6 g01 A00 l00.length n00 t28.2, r5 A00 l00.length n00 l00, r11 A12 t31.length n12 t31, b14 g02 A01 l01.length n01 A02 l02.length n02, r11 A01 l01.length n01 l01, r11 A02 l02.length n02 l02, b16 g03 a05 a06 a07] w63) := ⟨HS.out.call hS⟩
             clear hS
             by_cases c53 : t32 = true
             ·replace H := if_yes c53 H
              have c53b0 : t32 = true := c53
              have c53b1 : (!t32) = false := by rw [c53b0]; rfl
              clear c53
              go_wp2_with fail
              obtain ⟨t33, HA58, H⟩ := bind_some H
              refine (ground_Ground_Meter.calls l00 t28.2 a01 a02 a03 a04 g00 g01 A00 l00.length n00 t33 _ ⟨HS.out.begin⟩ HA58).mono ?_
              rintro e_ w64 ⟨rfl, hS⟩
              replace HS : Aside0 (Sep FF w [b7 g00 g01 a01 a02 a03 a04, b6 g01 A00 l00.length n00 t28.2, r5 A00 l00.length n00 l00, r11 A12 t31.length n12 t31, b14 g02 A01 l01.length n01 A02 l02.length n02, r11 A01 l01.length n01 l01, r11 A02 l02.length n02 l02, b16 g03 a05 a06 a07] w64) := ⟨HS.out.call hS⟩
              clear hS
              replace HS : Aside0 (Sep FF w [b7 g00 g01 a01 a02 a03 a04, b6 g01 A00 l00.length n00 t28.2, r5 A00 l00.length n00 l00, b14 g02 A01 l01.length n01 A02 l02.length n02, r11 A01 l01.length n01 l01, r11 A02 l02.length n02 l02] w64) := ⟨HS.out.sub (.cons_cons _ (.cons_cons _ (.cons_cons _ (.cons _ (.cons_cons _ (.cons_cons _ (.cons_cons _ (.cons _ .slnil))))))))⟩
              go_wp2_with fail
              go_ret
              rw [← some_eq H]
              exact ⟨(by first | rfl | (simp [IntKind.wrap_u32]; done)), HS.out⟩
             ·replace H := if_no c53 H
              have c53b0 : t32 = false := by simpa using c53
              have c53b1 : (!t32) = true := by rw [c53b0]; rfl
              clear c53
              replace HS : Aside0 (Sep FF w [b7 g00 g01 a01 a02 a03 a04, b6 g01 A00 l00.length n00 t28.2, r5 A00 l00.length n00 l00, b14 g02 A01 l01.length n01 A02 l02.length n02, r11 A01 l01.length n01 l01, r11 A02 l02.length n02 l02] w63) := ⟨HS.out.sub (.cons_cons _ (.cons_cons _ (.cons_cons _ (.cons _ (.cons_cons _ (.cons_cons _ (.cons_cons _ (.cons _ .slnil))))))))⟩
              go_wp2_with fail
              go_ret
              rw [← some_eq H]
              exact ⟨(by first | rfl | (simp [IntKind.wrap_u32]; done)), HS.out⟩
           ·replace H := if_no c51 H
            have c51b0 : (t27.1 == 0) = false := beq_eq_false_iff_ne.mpr c51
            have c51b1 : (t27.1 != 0) = true := bne_iff_ne.mpr c51
            clear c51
            replace HS : Aside0 (Sep FF w [b7 g00 g01 a01 a02 a03 a04, b6 g01 A00 l00.length n00 t28.2, r5 A00 l00.length n00 l00, b14 g02 A01 l01.length n01 A02 l02.length n02, r11 A01 l01.length n01 l01, r11 A02 l02.length n02 l02] w54) := ⟨HS.out.sub (.cons_cons _ (.cons_cons _ (.cons_cons _ (.cons_cons _ (.cons_cons _ (.cons_cons _ (.cons _ .slnil)))))))⟩
            go_wp2_with fail
            go_ret
            rw [← some_eq H]
            exact ⟨(by first | rfl | (simp [IntKind.wrap_u32]; done)), HS.out⟩
        ·replace H := if_no c43 H
         have c43b0 : (t28.1 == (l01.length : Int)) = false := beq_eq_false_iff_ne.mpr c43
         have c43b1 : (t28.1 != (l01.length : Int)) = true := bne_iff_ne.mpr c43
         clear c43
         replace HS : Aside0 (Sep FF w [b7 g00 g01 a01 a02 a03 a04, b6 g01 A00 l00.length n00 t28.2, r5 A00 l00.length n00 l00, b14 g02 A01 l01.length n01 A02 l02.length n02, r11 A01 l01.length n01 l01, r11 A02 l02.length n02 l02] w54) := ⟨HS.out.sub (.cons_cons _ (.cons_cons _ (.cons_cons _ (.cons_cons _ (.cons_cons _ (.cons_cons _ (.cons _ .slnil)))))))⟩
         go_wp2_with fail
         go_ret
         rw [← some_eq H]
         exact ⟨(by first | rfl | (simp [IntKind.wrap_u32]; done)), HS.out⟩
    ·have H := sum_r H
     exact (none_no H).elim
  ·replace H := if_no c00 H
   have c00b0 : (a06 == 0) = false := beq_eq_false_iff_ne.mpr c00
   have c00b1 : (a06 != 0) = true := bne_iff_ne.mpr c00
   clear c00
   go_wp2_with (first | ((with_reducible refine gate_dst (N := 5) rfl ?_); refine box_on ?hg (N := 5) ?hd (cs := #[.int .u8 a05, .int .i64 a06, .int .i64 a07]) (t := 86) ?hr ?_; (case hd => rfl); (case hg => rfl); (case hr => first | (go_simp; done) | (go_simp; rfl)); intro g03 hg w00 hbox hb; replace HS : Aside0 (Sep FF w [b7 g00 g01 a01 a02 a03 a04, b6 g01 A00 l00.length n00 a00, r5 A00 l00.length n00 l00, b14 g02 A01 l01.length n01 A02 l02.length n02, r11 A01 l01.length n01 l01, r11 A02 l02.length n02 l02, b16 g03 a05 a06 a07] w00) := ⟨HS.out.box hg hbox hb⟩; clear hg hbox hb; have hc00 : w00.cell? ⟨g03, 1, none⟩ = some (.int .i64 a06) := blk_cellv (HS.out.at6) 1 rfl))
   clear hc00
   refine start_ (n := 15) (S := (fun w' => w'.cell? ⟨g03, 2, none⟩ = some (.int .i64 a07))) (ds := []) #[false, false, false, false, false, false, false, false, false, false, false, false, false, false, false] (by kernel_rfl) rfl rfl (blk_cellv ((HS.out.drew).at6) 2 rfl) (fun hHeld => ?_)
   have HS_ := Aside0.mk HS.out.drew
   clear HS
   generalize World.drew _ = w65 at HS_ hHeld ⊢
   have HS := HS_
   clear HS_
   refine pure_ (i := 0) (N := some 23) (v := ?_) (a' := ?_) #[true, false, false, false, false, false, false, false, false, false, false, false, false, false, false] rfl rfl (by kernel_rfl) (fun _ _ _ h => h) (Or.inl ⟨by rfl, ?_⟩) ?_ ?_
   rotate_left
   ·intro w'
    go_simp
    with_reducible rfl
   rotate_left
   ·simp only [Act.put, List.setIfInBounds_toArray, List.set_cons_zero, List.set_cons_succ, i64_w, i32_w]
    rfl
   refine pure_ (i := 1) (N := some 24) (v := ?_) (a' := ?_) #[true, true, false, false, false, false, false, false, false, false, false, false, false, false, false] rfl rfl (by kernel_rfl) (fun _ _ _ h => h) (Or.inl ⟨by rfl, ?_⟩) ?_ ?_
   rotate_left
   ·intro w'
    go_simp
    with_reducible rfl
   rotate_left
   ·simp only [Act.put, List.setIfInBounds_toArray, List.set_cons_zero, List.set_cons_succ, i64_w, i32_w]
    rfl
   by_cases c54 : a06 = 1
   ·replace H := if_yes c54 H
    have c54b0 : (a06 == 1) = true := beq_iff_eq.mpr c54
    have c54b1 : (a06 != 1) = false := bne_eq_false_iff_eq.mpr c54
    clear c54
    try simp only [c54b0, Bool.not_true, Bool.not_false]
    refine pure_ (i := 2) (N := some 25) (v := ?_) (a' := ?_) #[true, true, true, false, false, false, false, false, false, false, false, false, false, false, false] rfl rfl (by kernel_rfl) (fun _ _ _ h => h) (Or.inl ⟨by rfl, ?_⟩) ?_ ?_
    rotate_left
    ·intro w'
     go_simp
     with_reducible rfl
    rotate_left
    ·simp only [Act.put, List.setIfInBounds_toArray, List.set_cons_zero, List.set_cons_succ, i64_w, i32_w]
     rfl
    try simp only [c54b0, Bool.not_true, Bool.not_false]
    refine take_ (i := 3) (N := some 26) (v := ?_) (a' := ?_) #[true, true, true, true, false, false, false, false, false, false, false, false, false, false, false] rfl rfl (by kernel_rfl) (fun _ _ _ h => h) (Or.inl ⟨by rfl, ?_⟩) hHeld ?_ ?_
    rotate_left
    ·rintro w' hS'
     have s0 := hS'
     go_simp
     with_reducible rfl
    rotate_left
    ·simp only [Act.put, List.setIfInBounds_toArray, List.set_cons_zero, List.set_cons_succ, i64_w, i32_w]
     rfl
    try simp only [c54b0, Bool.not_true, Bool.not_false]
    refine pure_ (i := 4) (N := some 27) (v := ?_) (a' := ?_) #[true, true, true, true, true, false, false, false, false, false, false, false, false, false, false] rfl rfl (by kernel_rfl) (fun _ _ _ h => h) (Or.inl ⟨by rfl, ?_⟩) ?_ ?_
    rotate_left
    ·intro w'
     go_simp
     with_reducible rfl
    rotate_left
    ·simp only [Act.put, List.setIfInBounds_toArray, List.set_cons_zero, List.set_cons_succ, i64_w, i32_w]
     rfl
    refine pure_ (i := 5) (N := some 28) (v := ?_) (a' := ?_) #[true, true, true, true, true, true, false, false, false, false, false, false, false, false, false] rfl rfl (by kernel_rfl) (fun _ _ _ h => h) (Or.inl ⟨by rfl, ?_⟩) ?_ ?_
    rotate_left
    ·intro w'
     go_simp
     with_reducible rfl
    rotate_left
    ·simp only [Act.put, List.setIfInBounds_toArray, List.set_cons_zero, List.set_cons_succ, i64_w, i32_w]
     rfl
    refine pure_ (i := 6) (N := some 29) (v := ?_) (a' := ?_) #[true, true, true, true, true, true, true, false, false, false, false, false, false, false, false] rfl rfl (by kernel_rfl) (fun _ _ _ h => h) (Or.inl ⟨by rfl, ?_⟩) ?_ ?_
    rotate_left
    ·intro w'
     go_simp
     with_reducible rfl
    rotate_left
    ·simp only [Act.put, List.setIfInBounds_toArray, List.set_cons_zero, List.set_cons_succ, i64_w, i32_w]
     rfl
    by_cases c55 : a07 ≥ 0
    ·replace H := if_yes c55 H
     have c55b0 : decide (0 ≤ a07) = true := decide_eq_true c55
     clear c55
     try simp only [c55b0, Bool.not_true, Bool.not_false]
     refine pure_ (i := 7) (N := some 30) (v := ?_) (a' := ?_) #[true, true, true, true, true, true, true, true, false, false, false, false, false, false, false] rfl rfl (by kernel_rfl) (fun _ _ _ h => h) (Or.inl ⟨by rfl, ?_⟩) ?_ ?_
     rotate_left
     ·intro w'
      go_simp
      with_reducible rfl
     rotate_left
     ·simp only [Act.put, List.setIfInBounds_toArray, List.set_cons_zero, List.set_cons_succ, i64_w, i32_w]
      rfl
     try simp only [c55b0, Bool.not_true, Bool.not_false]
     refine pure_ (i := 9) (N := some 32) (v := ?_) (a' := ?_) #[true, true, true, true, true, true, true, true, false, true, false, false, false, false, false] rfl rfl (by kernel_rfl) (fun _ _ _ h => h) (Or.inl ⟨by rfl, ?_⟩) ?_ ?_
     rotate_left
     ·intro w'
      go_simp
      with_reducible rfl
     rotate_left
     ·simp only [Act.put, List.setIfInBounds_toArray, List.set_cons_zero, List.set_cons_succ, i64_w, i32_w]
      rfl
     try simp only [c55b0, Bool.not_true, Bool.not_false]
     refine take_ (i := 8) (N := some 31) (v := ?_) (a' := ?_) #[true, true, true, true, true, true, true, true, true, true, false, false, false, false, false] rfl rfl (by kernel_rfl) (fun _ _ _ h => h) (Or.inl ⟨by rfl, ?_⟩) hHeld ?_ ?_
     rotate_left
     ·rintro w' hS'
      have s0 := hS'
      go_simp
      with_reducible rfl
     rotate_left
     ·simp only [Act.put, List.setIfInBounds_toArray, List.set_cons_zero, List.set_cons_succ, i64_w, i32_w]
      rfl
     try simp only [c55b0, Bool.not_true, Bool.not_false]
     refine one_ (i := 10) (N := some 33) #[true, true, true, true, true, true, true, true, true, true, true, false, false, false, false] rfl rfl (by kernel_rfl) (by decide) (fun K hK => ?_)
     obtain ⟨t00, HA59, H⟩ := bind_some H
     refine goes_ Try.func39 (by kernel_rfl) rfl #[.pointer (some ⟨g00, 0, none⟩)] (by rfl) rfl rfl (by (try simp only [List.map_toArray, List.map_cons, List.map_nil]); first | done | rfl) ?_
     refine (ground_Ground_Conf.calls l00 a00 a01 a02 a03 a04 g00 g01 A00 l00.length n00 t00 _ ⟨HS.out.begin⟩ HA59).mono ?_
     rintro e_ w66 ⟨rfl, hS⟩
     replace HS : Aside0 (Sep FF w [b7 g00 g01 a01 a02 a03 a04, b6 g01 A00 l00.length n00 a00, r5 A00 l00.length n00 l00, b14 g02 A01 l01.length n01 A02 l02.length n02, r11 A01 l01.length n01 l01, r11 A02 l02.length n02 l02, b16 g03 a05 a06 a07] w66) := ⟨HS.out.call hS⟩
     clear hS
     refine ⟨_, rfl, ?_⟩
     refine hK.out _ _ (blk_cellv (HS.out.at6) 2 rfl) (fun hHeld => ?_)
     clear hK K
     refine norm_ (a' := ?_) ?_ ?_
     rotate_left
     ·show Act.put _ (some 33) _ = _
      simp only [Act.put, List.setIfInBounds_toArray, List.set_cons_zero, List.set_cons_succ, i64_w, i32_w]
      rfl
     try simp only [c55b0, Bool.not_true, Bool.not_false]
     refine pure_ (i := 11) (N := some 34) (v := ?_) (a' := ?_) #[true, true, true, true, true, true, true, true, true, true, true, true, false, false, false] rfl rfl (by kernel_rfl) (fun _ _ _ h => h) (Or.inl ⟨by rfl, ?_⟩) ?_ ?_
     rotate_left
     ·have fl_ : ∀ w, (Instr.field 49 (.agg #[.int .i64 t00.1, .int .i64 t00.2.1, .int .i64 t00.2.2.1, .int .i64 t00.2.2.2]) 0).run Try.prog w = .ok (.int .i64 t00.1) w := fun _ => by kernel_rfl
      intro w'
      go_simp
      with_reducible rfl
     rotate_left
     ·simp only [Act.put, List.setIfInBounds_toArray, List.set_cons_zero, List.set_cons_succ, i64_w, i32_w]
      rfl
     try simp only [c55b0, Bool.not_true, Bool.not_false]
     refine pure_ (i := 12) (N := some 35) (v := ?_) (a' := ?_) #[true, true, true, true, true, true, true, true, true, true, true, true, true, false, false] rfl rfl (by kernel_rfl) (fun _ _ _ h => h) (Or.inl ⟨by rfl, ?_⟩) ?_ ?_
     rotate_left
     ·intro w'
      go_simp
      with_reducible rfl
     rotate_left
     ·simp only [Act.put, List.setIfInBounds_toArray, List.set_cons_zero, List.set_cons_succ, i64_w, i32_w]
      rfl
     refine pure_ (i := 13) (N := some 36) (v := ?_) (a' := ?_) #[true, true, true, true, true, true, true, true, true, true, true, true, true, true, false] rfl rfl (by kernel_rfl) (fun _ _ _ h => h) (Or.inl ⟨by rfl, ?_⟩) ?_ ?_
     rotate_left
     ·intro w'
      go_simp
      with_reducible rfl
     rotate_left
     ·simp only [Act.put, List.setIfInBounds_toArray, List.set_cons_zero, List.set_cons_succ, i64_w, i32_w]
      rfl
     refine pure_ (i := 14) (N := some 8) (v := ?_) (a' := ?_) #[true, true, true, true, true, true, true, true, true, true, true, true, true, true, true] rfl rfl (by kernel_rfl) (fun _ _ _ h => h) (Or.inl ⟨by rfl, ?_⟩) ?_ ?_
     rotate_left
     ·intro w'
      go_simp
      with_reducible rfl
     rotate_left
     ·simp only [Act.put, List.setIfInBounds_toArray, List.set_cons_zero, List.set_cons_succ, i64_w, i32_w]
      rfl
     refine done_ (by kernel_rfl) ?_
     have hc29 : w66.cell? ⟨g03, 1, none⟩ = some (.int .i64 a06) := blk_cellv (HS.out.at6) 1 rfl
     go_wp2_with fail
     clear hc29
     replace HS : Aside0 (Sep FF w [b14 g02 A01 l01.length n01 A02 l02.length n02, r11 A01 l01.length n01 l01, r11 A02 l02.length n02 l02, b7 g00 g01 a01 a02 a03 a04, b6 g01 A00 l00.length n00 a00, r5 A00 l00.length n00 l00, b16 g03 a05 a06 a07] w66) := ⟨(((HS.out).front 5 (by simp)).front 5 (by simp)).front 5 (by simp)⟩
     obtain ⟨t01, HA60, H⟩ := bind_some H
     rcases t01 with t02 | t03
     ·have H := sum_l H
      exact (none_no H).elim
     ·have H := sum_r H
      refine (quitrentref08_Chains_Of.calls l01 l02 a06 g02 A01 l01.length n01 A02 l02.length n02 (.inr t03) _ ⟨HS.out.begin⟩ HA60).mono ?_
      rintro e_ w67 ⟨rfl, hS⟩
      replace HS : Aside0 (Sep FF w [b14 g02 A01 l01.length n01 A02 l02.length n02, r11 A01 l01.length n01 l01, r11 A02 l02.length n02 l02, b7 g00 g01 a01 a02 a03 a04, b6 g01 A00 l00.length n00 a00, r5 A00 l00.length n00 l00, b16 g03 a05 a06 a07] w67) := ⟨HS.out.call hS⟩
      clear hS
      go_wp2_with fail
      replace HS : Aside0 (Sep FF w [b7 g00 g01 a01 a02 a03 a04, b6 g01 A00 l00.length n00 a00, r5 A00 l00.length n00 l00, b14 g02 A01 l01.length n01 A02 l02.length n02, r11 A01 l01.length n01 l01, r11 A02 l02.length n02 l02, b16 g03 a05 a06 a07] w67) := ⟨(((HS.out).front 5 (by simp)).front 5 (by simp)).front 5 (by simp)⟩
      obtain ⟨t04, HA61, H⟩ := bind_some H
      refine (ground_Ground_Meter.calls l00 a00 a01 a02 a03 a04 g00 g01 A00 l00.length n00 t04 _ ⟨HS.out.begin⟩ HA61).mono ?_
      rintro e_ w68 ⟨rfl, hS⟩
      replace HS : Aside0 (Sep FF w [b7 g00 g01 a01 a02 a03 a04, b6 g01 A00 l00.length n00 a00, r5 A00 l00.length n00 l00, b14 g02 A01 l01.length n01 A02 l02.length n02, r11 A01 l01.length n01 l01, r11 A02 l02.length n02 l02, b16 g03 a05 a06 a07] w68) := ⟨HS.out.call hS⟩
      clear hS
      by_cases c56 : a05 = 0
      ·replace H := if_yes c56 H
       have c56b0 : (a05 == 0) = true := beq_iff_eq.mpr c56
       have c56b1 : (a05 != 0) = false := bne_eq_false_iff_eq.mpr c56
       clear c56
       by_cases c57 : a07 < t00.1
       ·replace H := if_yes c57 H
        have c57b0 : decide (a07 < t00.1) = true := decide_eq_true c57
        clear c57
        have hc30 : w68.cell? ⟨g03, 0, none⟩ = some (.int .u8 a05) := blk_cellv (HS.out.at6) 0 rfl
        have hc31 : w68.cell? ⟨g03, 2, none⟩ = some (.int .i64 a07) := blk_cellv (HS.out.at6) 2 rfl
        go_wp2_with fail
        clear hc30 hc31
        replace HS : Aside0 (Sep FF w [b14 g02 A01 l01.length n01 A02 l02.length n02, r11 A01 l01.length n01 l01, r11 A02 l02.length n02 l02, b7 g00 g01 a01 a02 a03 a04, b6 g01 A00 l00.length n00 a00, r5 A00 l00.length n00 l00, b16 g03 a05 a06 a07] w68) := ⟨(((HS.out).front 5 (by simp)).front 5 (by simp)).front 5 (by simp)⟩
        obtain ⟨t05, HA62, H⟩ := bind_some H
        refine (quitrentref08_Chains_Stands.calls _ l01 l02 a07 g02 A01 l01.length n01 A02 l02.length n02 t05 _ ⟨HS.out.begin⟩ HA62).mono ?_
        rintro e_ w69 ⟨rfl, hS⟩
        replace HS : Aside0 (Sep FF w [b14 g02 A01 l01.length n01 A02 l02.length n02, r11 A01 l01.length n01 l01, r11 A02 l02.length n02 l02, b7 g00 g01 a01 a02 a03 a04, b6 g01 A00 l00.length n00 a00, r5 A00 l00.length n00 l00, b16 g03 a05 a06 a07] w69) := ⟨HS.out.call hS⟩
        clear hS
        by_cases c58 : t05 = true
        ·replace H := if_yes c58 H
         have c58b0 : t05 = true := c58
         have c58b1 : (!t05) = false := by rw [c58b0]; rfl
         clear c58
         replace HS : Aside0 (Sep FF w [b14 g02 A01 l01.length n01 A02 l02.length n02, r11 A01 l01.length n01 l01, r11 A02 l02.length n02 l02, b7 g00 g01 a01 a02 a03 a04, b6 g01 A00 l00.length n00 a00, r5 A00 l00.length n00 l00] w69) := ⟨HS.out.sub (.cons_cons _ (.cons_cons _ (.cons_cons _ (.cons_cons _ (.cons_cons _ (.cons_cons _ (.cons _ .slnil)))))))⟩
         go_wp2_with fail
         go_ret
         rw [← some_eq H]
         exact ⟨(by first | rfl | (simp [IntKind.wrap_u32]; done)), (((((((HS.out).front 2 (by simp)).front 2 (by simp)).front 2 (by simp)).front 5 (by simp)).front 5 (by simp)).front 5 (by simp)).keep (l := [b7 g00 g01 a01 a02 a03 a04, b6 g01 A00 l00.length n00 a00, r5 A00 l00.length n00 l00, b14 g02 A01 l01.length n01 A02 l02.length n02, r11 A01 l01.length n01 l01, r11 A02 l02.length n02 l02]) (rest := [])⟩
        ·replace H := if_no c58 H
         have c58b0 : t05 = false := by simpa using c58
         have c58b1 : (!t05) = true := by rw [c58b0]; rfl
         clear c58
         go_wp2_with fail
         refine start_ (n := 8) (S := (fun w' => w'.cell? ⟨g03, 1, none⟩ = some (.int .i64 a06) ∧ w'.cell? ⟨g03, 2, none⟩ = some (.int .i64 a07))) (ds := []) #[false, false, false, false, false, false, false, false] (by kernel_rfl) rfl rfl (⟨blk_cellv ((HS.out.drew).at6) 1 rfl, blk_cellv ((HS.out.drew).at6) 2 rfl⟩) (fun hHeld => ?_)
         have HS_ := Aside0.mk HS.out.drew
         clear HS
         generalize World.drew _ = w70 at HS_ hHeld ⊢
         have HS := HS_
         clear HS_
         refine pure_ (i := 0) (N := some 56) (v := ?_) (a' := ?_) #[true, false, false, false, false, false, false, false] rfl rfl (by kernel_rfl) (fun _ _ _ h => h) (Or.inl ⟨by rfl, ?_⟩) ?_ ?_
         rotate_left
         ·intro w'
          go_simp
          with_reducible rfl
         rotate_left
         ·simp only [Act.put, List.setIfInBounds_toArray, List.set_cons_zero, List.set_cons_succ, i64_w, i32_w]
          rfl
         refine pure_ (i := 1) (N := some 57) (v := ?_) (a' := ?_) #[true, true, false, false, false, false, false, false] rfl rfl (by kernel_rfl) (fun _ _ _ h => h) (Or.inl ⟨by rfl, ?_⟩) ?_ ?_
         rotate_left
         ·intro w'
          go_simp
          with_reducible rfl
         rotate_left
         ·simp only [Act.put, List.setIfInBounds_toArray, List.set_cons_zero, List.set_cons_succ, i64_w, i32_w]
          rfl
         refine pure_ (i := 3) (N := some 59) (v := ?_) (a' := ?_) #[true, true, false, true, false, false, false, false] rfl rfl (by kernel_rfl) (fun _ _ _ h => h) (Or.inl ⟨by rfl, ?_⟩) ?_ ?_
         rotate_left
         ·intro w'
          go_simp
          with_reducible rfl
         rotate_left
         ·simp only [Act.put, List.setIfInBounds_toArray, List.set_cons_zero, List.set_cons_succ, i64_w, i32_w]
          rfl
         refine pure_ (i := 4) (N := some 60) (v := ?_) (a' := ?_) #[true, true, false, true, true, false, false, false] rfl rfl (by kernel_rfl) (fun _ _ _ h => h) (Or.inl ⟨by rfl, ?_⟩) ?_ ?_
         rotate_left
         ·intro w'
          go_simp
          with_reducible rfl
         rotate_left
         ·simp only [Act.put, List.setIfInBounds_toArray, List.set_cons_zero, List.set_cons_succ, i64_w, i32_w]
          rfl
         refine take_ (i := 2) (N := some 58) (v := ?_) (a' := ?_) #[true, true, true, true, true, false, false, false] rfl rfl (by kernel_rfl) (fun _ _ _ h => h) (Or.inl ⟨by rfl, ?_⟩) hHeld ?_ ?_
         rotate_left
         ·rintro w' hS'
          obtain ⟨s0, s1⟩ := hS'
          go_simp
          with_reducible rfl
         rotate_left
         ·simp only [Act.put, List.setIfInBounds_toArray, List.set_cons_zero, List.set_cons_succ, i64_w, i32_w]
          rfl
         refine take_ (i := 5) (N := some 61) (v := ?_) (a' := ?_) #[true, true, true, true, true, true, false, false] rfl rfl (by kernel_rfl) (fun _ _ _ h => h) (Or.inl ⟨by rfl, ?_⟩) hHeld ?_ ?_
         rotate_left
         ·rintro w' hS'
          obtain ⟨s0, s1⟩ := hS'
          go_simp
          with_reducible rfl
         rotate_left
         ·simp only [Act.put, List.setIfInBounds_toArray, List.set_cons_zero, List.set_cons_succ, i64_w, i32_w]
          rfl
         refine one_ (i := 6) (N := some 62) #[true, true, true, true, true, true, true, false] rfl rfl (by kernel_rfl) (by decide) (fun K hK => ?_)
         obtain ⟨t06, HA63, H⟩ := bind_some H
         refine goes_ Try.func95 (by kernel_rfl) rfl #[.slice A02 l02.length n02, .int .i64 a07] (by rfl) rfl rfl (by (try simp only [List.map_toArray, List.map_cons, List.map_nil]); first | done | rfl) ?_
         refine (quitrentref08_Front.calls _ l02 a07 A02 n02 t06 _ ⟨Rd.ownI (l := []) HS.out 2 rfl⟩ ⟨Sep.start _⟩ HA63).mono ?_
         rintro e_ w71 ⟨A13, m13, n13, rfl, hS⟩
         replace HS : Aside0 (Sep FF w [r11 A13 m13 n13 t06, b14 g02 A01 l01.length n01 A02 l02.length n02, r11 A01 l01.length n01 l01, r11 A02 l02.length n02 l02, b7 g00 g01 a01 a02 a03 a04, b6 g01 A00 l00.length n00 a00, r5 A00 l00.length n00 l00, b16 g03 a05 a06 a07] w71) := ⟨HS.out.call hS⟩
         clear hS
         obtain rfl := (row_len (HS.out.at0)).symm
         refine ⟨_, rfl, ?_⟩
         refine hK.out _ _ (⟨blk_cellv (HS.out.at7) 1 rfl, blk_cellv (HS.out.at7) 2 rfl⟩) (fun hHeld => ?_)
         clear hK K
         refine norm_ (a' := ?_) ?_ ?_
         rotate_left
         ·show Act.put _ (some 62) _ = _
          simp only [Act.put, List.setIfInBounds_toArray, List.set_cons_zero, List.set_cons_succ, i64_w, i32_w]
          rfl
         refine one_ (i := 7) (N := some 63) #[true, true, true, true, true, true, true, true] rfl rfl (by kernel_rfl) (by decide) (fun K hK => ?_)
         replace HS : Aside0 (Sep FF w [b14 g02 A01 l01.length n01 A02 l02.length n02, r11 A01 l01.length n01 l01, r11 A02 l02.length n02 l02, r11 A13 t06.length n13 t06, b7 g00 g01 a01 a02 a03 a04, b6 g01 A00 l00.length n00 a00, r5 A00 l00.length n00 l00, b16 g03 a05 a06 a07] w71) := ⟨(((HS.out).front 3 (by simp)).front 3 (by simp)).front 3 (by simp)⟩
         obtain ⟨t07, HA64, H⟩ := bind_some H
         rcases t07 with t08 | t09
         ·have H := sum_l H
          exact (none_no H).elim
         ·have H := sum_r H
          refine goes_ Try.func94 (by kernel_rfl) rfl #[.pointer (some ⟨g02, 0, none⟩), .int .i64 a06, .slice A13 t06.length n13] (by rfl) rfl rfl (by (try simp only [List.map_toArray, List.map_cons, List.map_nil]); first | done | rfl) ?_
          refine (quitrentref08_Chains_Set_1.calls l01 l02 a06 t06 g02 A01 l01.length n01 A02 l02.length n02 A13 t06.length n13 (.inr t09) _ ⟨HS.out.begin⟩ HA64).mono ?_
          rintro e_ w72 ⟨rfl, hS⟩
          replace HS : Aside0 (Sep FF w [b14 g02 A01 l01.length n01 A13 t06.length n13, r11 A01 l01.length n01 l01, r11 A02 l02.length n02 l02, r11 A13 t06.length n13 t06, b7 g00 g01 a01 a02 a03 a04, b6 g01 A00 l00.length n00 a00, r5 A00 l00.length n00 l00, b16 g03 a05 a06 a07] w72) := ⟨HS.out.call hS⟩
          clear hS
          refine ⟨_, rfl, ?_⟩
          refine hK.out _ _ (⟨blk_cellv (HS.out.at7) 1 rfl, blk_cellv (HS.out.at7) 2 rfl⟩) (fun hHeld => ?_)
          clear hK K
          refine norm_ (a' := ?_) ?_ ?_
          rotate_left
          ·show Act.put _ (some 63) _ = _
           simp only [Act.put, List.setIfInBounds_toArray, List.set_cons_zero, List.set_cons_succ, i64_w, i32_w]
           rfl
          refine done_ (by kernel_rfl) ?_
          have hc32 : w72.cell? ⟨g03, 1, none⟩ = some (.int .i64 a06) := blk_cellv (HS.out.at7) 1 rfl
          have hc33 : w72.cell? ⟨g03, 2, none⟩ = some (.int .i64 a07) := blk_cellv (HS.out.at7) 2 rfl
          go_wp2_with fail
          clear hc32 hc33
          replace HS : Aside0 (Sep FF w [b7 g00 g01 a01 a02 a03 a04, b6 g01 A00 l00.length n00 a00, r5 A00 l00.length n00 l00, b14 g02 A01 l01.length n01 A13 t06.length n13, r11 A01 l01.length n01 l01, r11 A02 l02.length n02 l02, r11 A13 t06.length n13 t06, b16 g03 a05 a06 a07] w72) := ⟨(((HS.out).front 6 (by simp)).front 6 (by simp)).front 6 (by simp)⟩
          obtain ⟨t10, HA65, H⟩ := bind_some H
          refine (chain_Push.calls l00 a00 a01 a02 a03 a04 a06 a07 g00 g01 A00 l00.length n00 t10 _ ⟨HS.out.begin⟩ HA65).mono ?_
          rintro e_ w73 ⟨rfl, hS⟩
          replace HS : Aside0 (Sep FF w [b7 g00 g01 a01 a02 a03 a04, b6 g01 A00 l00.length n00 t10.2.1, r5 A00 l00.length n00 t10.2.2, b14 g02 A01 l01.length n01 A13 t06.length n13, r11 A01 l01.length n01 l01, r11 A02 l02.length n02 l02, r11 A13 t06.length n13 t06, b16 g03 a05 a06 a07] w73) := ⟨HS.out.call hS⟩
          clear hS
          by_cases c59 : t10.1 = true
          ·replace H := if_yes c59 H
           have c59b0 : t10.1 = true := c59
           have c59b1 : (!t10.1) = false := by rw [c59b0]; rfl
           clear c59
           go_wp2_with fail
           obtain ⟨t11, HA66, H⟩ := bind_some H
           refine (ground_Ground_Meter.calls t10.2.2 t10.2.1 a01 a02 a03 a04 g00 g01 A00 l00.length n00 t11 _ ⟨HS.out.begin⟩ HA66).mono ?_
           rintro e_ w74 ⟨rfl, hS⟩
           replace HS : Aside0 (Sep FF w [b7 g00 g01 a01 a02 a03 a04, b6 g01 A00 l00.length n00 t10.2.1, r5 A00 l00.length n00 t10.2.2, b14 g02 A01 l01.length n01 A13 t06.length n13, r11 A01 l01.length n01 l01, r11 A02 l02.length n02 l02, r11 A13 t06.length n13 t06, b16 g03 a05 a06 a07] w74) := ⟨HS.out.call hS⟩
           clear hS
           replace HS : Aside0 (Sep FF w [b7 g00 g01 a01 a02 a03 a04, b6 g01 A00 l00.length n00 t10.2.1, r5 A00 l00.length n00 t10.2.2, b14 g02 A01 l01.length n01 A13 t06.length n13, r11 A01 l01.length n01 l01, r11 A02 l02.length n02 l02, r11 A13 t06.length n13 t06] w74) := ⟨HS.out.sub (.cons_cons _ (.cons_cons _ (.cons_cons _ (.cons_cons _ (.cons_cons _ (.cons_cons _ (.cons_cons _ (.cons _ .slnil))))))))⟩
           go_wp2_with fail
           go_ret
           rw [← some_eq H]
           exact ⟨(by first | rfl | (simp [IntKind.wrap_u32]; done)), A13, t06.length, n13, HS.out⟩
          ·replace H := if_no c59 H
           have c59b0 : t10.1 = false := by simpa using c59
           have c59b1 : (!t10.1) = true := by rw [c59b0]; rfl
           clear c59
           replace HS : Aside0 (Sep FF w [b7 g00 g01 a01 a02 a03 a04, b6 g01 A00 l00.length n00 t10.2.1, r5 A00 l00.length n00 t10.2.2, b14 g02 A01 l01.length n01 A13 t06.length n13, r11 A01 l01.length n01 l01, r11 A02 l02.length n02 l02, r11 A13 t06.length n13 t06] w73) := ⟨HS.out.sub (.cons_cons _ (.cons_cons _ (.cons_cons _ (.cons_cons _ (.cons_cons _ (.cons_cons _ (.cons_cons _ (.cons _ .slnil))))))))⟩
           go_wp2_with fail
           go_ret
           rw [← some_eq H]
           exact ⟨(by first | rfl | (simp [IntKind.wrap_u32]; done)), A13, t06.length, n13, HS.out⟩
       ·replace H := if_no c57 H
        have c57b0 : decide (a07 < t00.1) = false := decide_eq_false c57
        clear c57
        have hc30 : w68.cell? ⟨g03, 0, none⟩ = some (.int .u8 a05) := blk_cellv (HS.out.at6) 0 rfl
        have hc34 : w68.cell? ⟨g03, 1, none⟩ = some (.int .i64 a06) := blk_cellv (HS.out.at6) 1 rfl
        have hc35 : w68.cell? ⟨g03, 2, none⟩ = some (.int .i64 a07) := blk_cellv (HS.out.at6) 2 rfl
        go_wp2_with fail
        clear hc30 hc34 hc35
        obtain ⟨t10, HA67, H⟩ := bind_some H
        refine (chain_Push.calls l00 a00 a01 a02 a03 a04 a06 a07 g00 g01 A00 l00.length n00 t10 _ ⟨HS.out.begin⟩ HA67).mono ?_
        rintro e_ w75 ⟨rfl, hS⟩
        replace HS : Aside0 (Sep FF w [b7 g00 g01 a01 a02 a03 a04, b6 g01 A00 l00.length n00 t10.2.1, r5 A00 l00.length n00 t10.2.2, b14 g02 A01 l01.length n01 A02 l02.length n02, r11 A01 l01.length n01 l01, r11 A02 l02.length n02 l02, b16 g03 a05 a06 a07] w75) := ⟨HS.out.call hS⟩
        clear hS
        by_cases c60 : t10.1 = true
        ·replace H := if_yes c60 H
         have c60b0 : t10.1 = true := c60
         have c60b1 : (!t10.1) = false := by rw [c60b0]; rfl
         clear c60
         replace HS : Aside0 (Sep FF w [b7 g00 g01 a01 a02 a03 a04, b6 g01 A00 l00.length n00 t10.2.1, r5 A00 l00.length n00 t10.2.2, b14 g02 A01 l01.length n01 A02 l02.length n02, r11 A01 l01.length n01 l01, r11 A02 l02.length n02 l02] w75) := ⟨HS.out.sub (.cons_cons _ (.cons_cons _ (.cons_cons _ (.cons_cons _ (.cons_cons _ (.cons_cons _ (.cons _ .slnil)))))))⟩
         go_wp2_with fail
         go_ret
         rw [← some_eq H]
         exact ⟨(by first | rfl | (simp [IntKind.wrap_u32]; done)), HS.out⟩
        ·replace H := if_no c60 H
         have c60b0 : t10.1 = false := by simpa using c60
         have c60b1 : (!t10.1) = true := by rw [c60b0]; rfl
         clear c60
         go_wp2_with fail
         obtain ⟨t11, HA68, H⟩ := bind_some H
         refine (ground_Ground_Meter.calls t10.2.2 t10.2.1 a01 a02 a03 a04 g00 g01 A00 l00.length n00 t11 _ ⟨HS.out.begin⟩ HA68).mono ?_
         rintro e_ w76 ⟨rfl, hS⟩
         replace HS : Aside0 (Sep FF w [b7 g00 g01 a01 a02 a03 a04, b6 g01 A00 l00.length n00 t10.2.1, r5 A00 l00.length n00 t10.2.2, b14 g02 A01 l01.length n01 A02 l02.length n02, r11 A01 l01.length n01 l01, r11 A02 l02.length n02 l02, b16 g03 a05 a06 a07] w76) := ⟨HS.out.call hS⟩
         clear hS
         replace HS : Aside0 (Sep FF w [b7 g00 g01 a01 a02 a03 a04, b6 g01 A00 l00.length n00 t10.2.1, r5 A00 l00.length n00 t10.2.2, b14 g02 A01 l01.length n01 A02 l02.length n02, r11 A01 l01.length n01 l01, r11 A02 l02.length n02 l02] w76) := ⟨HS.out.sub (.cons_cons _ (.cons_cons _ (.cons_cons _ (.cons_cons _ (.cons_cons _ (.cons_cons _ (.cons _ .slnil)))))))⟩
         go_wp2_with fail
         go_ret
         rw [← some_eq H]
         exact ⟨(by first | rfl | (simp [IntKind.wrap_u32]; done)), HS.out⟩
      ·replace H := if_no c56 H
       have c56b0 : (a05 == 0) = false := beq_eq_false_iff_ne.mpr c56
       have c56b1 : (a05 != 0) = true := bne_iff_ne.mpr c56
       clear c56
       by_cases c61 : a05 = 1
       ·replace H := if_yes c61 H
        have c61b0 : (a05 == 1) = true := beq_iff_eq.mpr c61
        have c61b1 : (a05 != 1) = false := bne_eq_false_iff_eq.mpr c61
        clear c61
        by_cases c62 : a07 < t00.1
        ·replace H := if_yes c62 H
         have c62b0 : decide (a07 < t00.1) = true := decide_eq_true c62
         clear c62
         have hc30 : w68.cell? ⟨g03, 0, none⟩ = some (.int .u8 a05) := blk_cellv (HS.out.at6) 0 rfl
         have hc36 : w68.cell? ⟨g03, 2, none⟩ = some (.int .i64 a07) := blk_cellv (HS.out.at6) 2 rfl
         go_wp2_with fail
         clear hc30 hc36
         replace HS : Aside0 (Sep FF w [b14 g02 A01 l01.length n01 A02 l02.length n02, r11 A01 l01.length n01 l01, r11 A02 l02.length n02 l02, b7 g00 g01 a01 a02 a03 a04, b6 g01 A00 l00.length n00 a00, r5 A00 l00.length n00 l00, b16 g03 a05 a06 a07] w68) := ⟨(((HS.out).front 5 (by simp)).front 5 (by simp)).front 5 (by simp)⟩
         obtain ⟨t12, HA69, H⟩ := bind_some H
         refine (quitrentref08_Chains_Stands.calls _ l01 l02 a07 g02 A01 l01.length n01 A02 l02.length n02 t12 _ ⟨HS.out.begin⟩ HA69).mono ?_
         rintro e_ w77 ⟨rfl, hS⟩
         replace HS : Aside0 (Sep FF w [b14 g02 A01 l01.length n01 A02 l02.length n02, r11 A01 l01.length n01 l01, r11 A02 l02.length n02 l02, b7 g00 g01 a01 a02 a03 a04, b6 g01 A00 l00.length n00 a00, r5 A00 l00.length n00 l00, b16 g03 a05 a06 a07] w77) := ⟨HS.out.call hS⟩
         clear hS
         by_cases c63 : t12 = true
         ·replace H := if_yes c63 H
          have c63b0 : t12 = true := c63
          have c63b1 : (!t12) = false := by rw [c63b0]; rfl
          clear c63
          replace HS : Aside0 (Sep FF w [b14 g02 A01 l01.length n01 A02 l02.length n02, r11 A01 l01.length n01 l01, r11 A02 l02.length n02 l02, b7 g00 g01 a01 a02 a03 a04, b6 g01 A00 l00.length n00 a00, r5 A00 l00.length n00 l00] w77) := ⟨HS.out.sub (.cons_cons _ (.cons_cons _ (.cons_cons _ (.cons_cons _ (.cons_cons _ (.cons_cons _ (.cons _ .slnil)))))))⟩
          go_wp2_with fail
          go_ret
          rw [← some_eq H]
          exact ⟨(by first | rfl | (simp [IntKind.wrap_u32]; done)), (((((((HS.out).front 2 (by simp)).front 2 (by simp)).front 2 (by simp)).front 5 (by simp)).front 5 (by simp)).front 5 (by simp)).keep (l := [b7 g00 g01 a01 a02 a03 a04, b6 g01 A00 l00.length n00 a00, r5 A00 l00.length n00 l00, b14 g02 A01 l01.length n01 A02 l02.length n02, r11 A01 l01.length n01 l01, r11 A02 l02.length n02 l02]) (rest := [])⟩
         ·replace H := if_no c63 H
          have c63b0 : t12 = false := by simpa using c63
          have c63b1 : (!t12) = true := by rw [c63b0]; rfl
          clear c63
          go_wp2_with fail
          refine start_ (n := 8) (S := (fun w' => w'.cell? ⟨g03, 1, none⟩ = some (.int .i64 a06) ∧ w'.cell? ⟨g03, 2, none⟩ = some (.int .i64 a07))) (ds := []) #[false, false, false, false, false, false, false, false] (by kernel_rfl) rfl rfl (⟨blk_cellv ((HS.out.drew).at6) 1 rfl, blk_cellv ((HS.out.drew).at6) 2 rfl⟩) (fun hHeld => ?_)
          have HS_ := Aside0.mk HS.out.drew
          clear HS
          generalize World.drew _ = w78 at HS_ hHeld ⊢
          have HS := HS_
          clear HS_
          refine pure_ (i := 0) (N := some 89) (v := ?_) (a' := ?_) #[true, false, false, false, false, false, false, false] rfl rfl (by kernel_rfl) (fun _ _ _ h => h) (Or.inl ⟨by rfl, ?_⟩) ?_ ?_
          rotate_left
          ·intro w'
           go_simp
           with_reducible rfl
          rotate_left
          ·simp only [Act.put, List.setIfInBounds_toArray, List.set_cons_zero, List.set_cons_succ, i64_w, i32_w]
           rfl
          refine pure_ (i := 1) (N := some 90) (v := ?_) (a' := ?_) #[true, true, false, false, false, false, false, false] rfl rfl (by kernel_rfl) (fun _ _ _ h => h) (Or.inl ⟨by rfl, ?_⟩) ?_ ?_
          rotate_left
          ·intro w'
           go_simp
           with_reducible rfl
          rotate_left
          ·simp only [Act.put, List.setIfInBounds_toArray, List.set_cons_zero, List.set_cons_succ, i64_w, i32_w]
           rfl
          refine pure_ (i := 3) (N := some 92) (v := ?_) (a' := ?_) #[true, true, false, true, false, false, false, false] rfl rfl (by kernel_rfl) (fun _ _ _ h => h) (Or.inl ⟨by rfl, ?_⟩) ?_ ?_
          rotate_left
          ·intro w'
           go_simp
           with_reducible rfl
          rotate_left
          ·simp only [Act.put, List.setIfInBounds_toArray, List.set_cons_zero, List.set_cons_succ, i64_w, i32_w]
           rfl
          refine pure_ (i := 4) (N := some 93) (v := ?_) (a' := ?_) #[true, true, false, true, true, false, false, false] rfl rfl (by kernel_rfl) (fun _ _ _ h => h) (Or.inl ⟨by rfl, ?_⟩) ?_ ?_
          rotate_left
          ·intro w'
           go_simp
           with_reducible rfl
          rotate_left
          ·simp only [Act.put, List.setIfInBounds_toArray, List.set_cons_zero, List.set_cons_succ, i64_w, i32_w]
           rfl
          refine take_ (i := 2) (N := some 91) (v := ?_) (a' := ?_) #[true, true, true, true, true, false, false, false] rfl rfl (by kernel_rfl) (fun _ _ _ h => h) (Or.inl ⟨by rfl, ?_⟩) hHeld ?_ ?_
          rotate_left
          ·rintro w' hS'
           obtain ⟨s0, s1⟩ := hS'
           go_simp
           with_reducible rfl
          rotate_left
          ·simp only [Act.put, List.setIfInBounds_toArray, List.set_cons_zero, List.set_cons_succ, i64_w, i32_w]
           rfl
          refine take_ (i := 5) (N := some 94) (v := ?_) (a' := ?_) #[true, true, true, true, true, true, false, false] rfl rfl (by kernel_rfl) (fun _ _ _ h => h) (Or.inl ⟨by rfl, ?_⟩) hHeld ?_ ?_
          rotate_left
          ·rintro w' hS'
           obtain ⟨s0, s1⟩ := hS'
           go_simp
           with_reducible rfl
          rotate_left
          ·simp only [Act.put, List.setIfInBounds_toArray, List.set_cons_zero, List.set_cons_succ, i64_w, i32_w]
           rfl
          refine one_ (i := 6) (N := some 95) #[true, true, true, true, true, true, true, false] rfl rfl (by kernel_rfl) (by decide) (fun K hK => ?_)
          obtain ⟨t13, HA70, H⟩ := bind_some H
          refine goes_ Try.func96 (by kernel_rfl) rfl #[.slice A02 l02.length n02, .int .i64 a07] (by rfl) rfl rfl (by (try simp only [List.map_toArray, List.map_cons, List.map_nil]); first | done | rfl) ?_
          refine (quitrentref08_Behind.calls _ l02 a07 A02 n02 t13 _ ⟨Rd.ownI (l := []) HS.out 2 rfl⟩ ⟨Sep.start _⟩ HA70).mono ?_
          rintro e_ w79 ⟨A14, m14, n14, rfl, hS⟩
          replace HS : Aside0 (Sep FF w [r11 A14 m14 n14 t13, b14 g02 A01 l01.length n01 A02 l02.length n02, r11 A01 l01.length n01 l01, r11 A02 l02.length n02 l02, b7 g00 g01 a01 a02 a03 a04, b6 g01 A00 l00.length n00 a00, r5 A00 l00.length n00 l00, b16 g03 a05 a06 a07] w79) := ⟨HS.out.call hS⟩
          clear hS
          obtain rfl := (row_len (HS.out.at0)).symm
          refine ⟨_, rfl, ?_⟩
          refine hK.out _ _ (⟨blk_cellv (HS.out.at7) 1 rfl, blk_cellv (HS.out.at7) 2 rfl⟩) (fun hHeld => ?_)
          clear hK K
          refine norm_ (a' := ?_) ?_ ?_
          rotate_left
          ·show Act.put _ (some 95) _ = _
           simp only [Act.put, List.setIfInBounds_toArray, List.set_cons_zero, List.set_cons_succ, i64_w, i32_w]
           rfl
          refine one_ (i := 7) (N := some 96) #[true, true, true, true, true, true, true, true] rfl rfl (by kernel_rfl) (by decide) (fun K hK => ?_)
          replace HS : Aside0 (Sep FF w [b14 g02 A01 l01.length n01 A02 l02.length n02, r11 A01 l01.length n01 l01, r11 A02 l02.length n02 l02, r11 A14 t13.length n14 t13, b7 g00 g01 a01 a02 a03 a04, b6 g01 A00 l00.length n00 a00, r5 A00 l00.length n00 l00, b16 g03 a05 a06 a07] w79) := ⟨(((HS.out).front 3 (by simp)).front 3 (by simp)).front 3 (by simp)⟩
          obtain ⟨t14, HA71, H⟩ := bind_some H
          rcases t14 with t15 | t16
          ·have H := sum_l H
           exact (none_no H).elim
          ·have H := sum_r H
           refine goes_ Try.func94 (by kernel_rfl) rfl #[.pointer (some ⟨g02, 0, none⟩), .int .i64 a06, .slice A14 t13.length n14] (by rfl) rfl rfl (by (try simp only [List.map_toArray, List.map_cons, List.map_nil]); first | done | rfl) ?_
           refine (quitrentref08_Chains_Set_1.calls l01 l02 a06 t13 g02 A01 l01.length n01 A02 l02.length n02 A14 t13.length n14 (.inr t16) _ ⟨HS.out.begin⟩ HA71).mono ?_
           rintro e_ w80 ⟨rfl, hS⟩
           replace HS : Aside0 (Sep FF w [b14 g02 A01 l01.length n01 A14 t13.length n14, r11 A01 l01.length n01 l01, r11 A02 l02.length n02 l02, r11 A14 t13.length n14 t13, b7 g00 g01 a01 a02 a03 a04, b6 g01 A00 l00.length n00 a00, r5 A00 l00.length n00 l00, b16 g03 a05 a06 a07] w80) := ⟨HS.out.call hS⟩
           clear hS
           refine ⟨_, rfl, ?_⟩
           refine hK.out _ _ (⟨blk_cellv (HS.out.at7) 1 rfl, blk_cellv (HS.out.at7) 2 rfl⟩) (fun hHeld => ?_)
           clear hK K
           refine norm_ (a' := ?_) ?_ ?_
           rotate_left
           ·show Act.put _ (some 96) _ = _
            simp only [Act.put, List.setIfInBounds_toArray, List.set_cons_zero, List.set_cons_succ, i64_w, i32_w]
            rfl
           refine done_ (by kernel_rfl) ?_
           have hc37 : w80.cell? ⟨g03, 1, none⟩ = some (.int .i64 a06) := blk_cellv (HS.out.at7) 1 rfl
           have hc38 : w80.cell? ⟨g03, 2, none⟩ = some (.int .i64 a07) := blk_cellv (HS.out.at7) 2 rfl
           go_wp2_with fail
           clear hc37 hc38
           replace HS : Aside0 (Sep FF w [b7 g00 g01 a01 a02 a03 a04, b6 g01 A00 l00.length n00 a00, r5 A00 l00.length n00 l00, b14 g02 A01 l01.length n01 A14 t13.length n14, r11 A01 l01.length n01 l01, r11 A02 l02.length n02 l02, r11 A14 t13.length n14 t13, b16 g03 a05 a06 a07] w80) := ⟨(((HS.out).front 6 (by simp)).front 6 (by simp)).front 6 (by simp)⟩
           obtain ⟨t17, HA72, H⟩ := bind_some H
           refine (chain_Add.calls l00 a00 a01 a02 a03 a04 a06 a07 g00 g01 A00 l00.length n00 t17 _ ⟨HS.out.begin⟩ HA72).mono ?_
           rintro e_ w81 ⟨rfl, hS⟩
           replace HS : Aside0 (Sep FF w [b7 g00 g01 a01 a02 a03 a04, b6 g01 A00 l00.length n00 t17.2.1, r5 A00 l00.length n00 t17.2.2, b14 g02 A01 l01.length n01 A14 t13.length n14, r11 A01 l01.length n01 l01, r11 A02 l02.length n02 l02, r11 A14 t13.length n14 t13, b16 g03 a05 a06 a07] w81) := ⟨HS.out.call hS⟩
           clear hS
           by_cases c64 : t17.1 = true
           ·replace H := if_yes c64 H
            have c64b0 : t17.1 = true := c64
            have c64b1 : (!t17.1) = false := by rw [c64b0]; rfl
            clear c64
            go_wp2_with fail
            obtain ⟨t18, HA73, H⟩ := bind_some H
            refine (ground_Ground_Meter.calls t17.2.2 t17.2.1 a01 a02 a03 a04 g00 g01 A00 l00.length n00 t18 _ ⟨HS.out.begin⟩ HA73).mono ?_
            rintro e_ w82 ⟨rfl, hS⟩
            replace HS : Aside0 (Sep FF w [b7 g00 g01 a01 a02 a03 a04, b6 g01 A00 l00.length n00 t17.2.1, r5 A00 l00.length n00 t17.2.2, b14 g02 A01 l01.length n01 A14 t13.length n14, r11 A01 l01.length n01 l01, r11 A02 l02.length n02 l02, r11 A14 t13.length n14 t13, b16 g03 a05 a06 a07] w82) := ⟨HS.out.call hS⟩
            clear hS
            replace HS : Aside0 (Sep FF w [b7 g00 g01 a01 a02 a03 a04, b6 g01 A00 l00.length n00 t17.2.1, r5 A00 l00.length n00 t17.2.2, b14 g02 A01 l01.length n01 A14 t13.length n14, r11 A01 l01.length n01 l01, r11 A02 l02.length n02 l02, r11 A14 t13.length n14 t13] w82) := ⟨HS.out.sub (.cons_cons _ (.cons_cons _ (.cons_cons _ (.cons_cons _ (.cons_cons _ (.cons_cons _ (.cons_cons _ (.cons _ .slnil))))))))⟩
            go_wp2_with fail
            go_ret
            rw [← some_eq H]
            exact ⟨(by first | rfl | (simp [IntKind.wrap_u32]; done)), A14, t13.length, n14, HS.out⟩
           ·replace H := if_no c64 H
            have c64b0 : t17.1 = false := by simpa using c64
            have c64b1 : (!t17.1) = true := by rw [c64b0]; rfl
            clear c64
            replace HS : Aside0 (Sep FF w [b7 g00 g01 a01 a02 a03 a04, b6 g01 A00 l00.length n00 t17.2.1, r5 A00 l00.length n00 t17.2.2, b14 g02 A01 l01.length n01 A14 t13.length n14, r11 A01 l01.length n01 l01, r11 A02 l02.length n02 l02, r11 A14 t13.length n14 t13] w81) := ⟨HS.out.sub (.cons_cons _ (.cons_cons _ (.cons_cons _ (.cons_cons _ (.cons_cons _ (.cons_cons _ (.cons_cons _ (.cons _ .slnil))))))))⟩
            go_wp2_with fail
            go_ret
            rw [← some_eq H]
            exact ⟨(by first | rfl | (simp [IntKind.wrap_u32]; done)), A14, t13.length, n14, HS.out⟩
        ·replace H := if_no c62 H
         have c62b0 : decide (a07 < t00.1) = false := decide_eq_false c62
         clear c62
         have hc30 : w68.cell? ⟨g03, 0, none⟩ = some (.int .u8 a05) := blk_cellv (HS.out.at6) 0 rfl
         have hc39 : w68.cell? ⟨g03, 1, none⟩ = some (.int .i64 a06) := blk_cellv (HS.out.at6) 1 rfl
         have hc40 : w68.cell? ⟨g03, 2, none⟩ = some (.int .i64 a07) := blk_cellv (HS.out.at6) 2 rfl
         go_wp2_with fail
         clear hc30 hc39 hc40
         obtain ⟨t17, HA74, H⟩ := bind_some H
         refine (chain_Add.calls l00 a00 a01 a02 a03 a04 a06 a07 g00 g01 A00 l00.length n00 t17 _ ⟨HS.out.begin⟩ HA74).mono ?_
         rintro e_ w83 ⟨rfl, hS⟩
         replace HS : Aside0 (Sep FF w [b7 g00 g01 a01 a02 a03 a04, b6 g01 A00 l00.length n00 t17.2.1, r5 A00 l00.length n00 t17.2.2, b14 g02 A01 l01.length n01 A02 l02.length n02, r11 A01 l01.length n01 l01, r11 A02 l02.length n02 l02, b16 g03 a05 a06 a07] w83) := ⟨HS.out.call hS⟩
         clear hS
         by_cases c65 : t17.1 = true
         ·replace H := if_yes c65 H
          have c65b0 : t17.1 = true := c65
          have c65b1 : (!t17.1) = false := by rw [c65b0]; rfl
          clear c65
          replace HS : Aside0 (Sep FF w [b7 g00 g01 a01 a02 a03 a04, b6 g01 A00 l00.length n00 t17.2.1, r5 A00 l00.length n00 t17.2.2, b14 g02 A01 l01.length n01 A02 l02.length n02, r11 A01 l01.length n01 l01, r11 A02 l02.length n02 l02] w83) := ⟨HS.out.sub (.cons_cons _ (.cons_cons _ (.cons_cons _ (.cons_cons _ (.cons_cons _ (.cons_cons _ (.cons _ .slnil)))))))⟩
          go_wp2_with fail
          go_ret
          rw [← some_eq H]
          exact ⟨(by first | rfl | (simp [IntKind.wrap_u32]; done)), HS.out⟩
         ·replace H := if_no c65 H
          have c65b0 : t17.1 = false := by simpa using c65
          have c65b1 : (!t17.1) = true := by rw [c65b0]; rfl
          clear c65
          go_wp2_with fail
          obtain ⟨t18, HA75, H⟩ := bind_some H
          refine (ground_Ground_Meter.calls t17.2.2 t17.2.1 a01 a02 a03 a04 g00 g01 A00 l00.length n00 t18 _ ⟨HS.out.begin⟩ HA75).mono ?_
          rintro e_ w84 ⟨rfl, hS⟩
          replace HS : Aside0 (Sep FF w [b7 g00 g01 a01 a02 a03 a04, b6 g01 A00 l00.length n00 t17.2.1, r5 A00 l00.length n00 t17.2.2, b14 g02 A01 l01.length n01 A02 l02.length n02, r11 A01 l01.length n01 l01, r11 A02 l02.length n02 l02, b16 g03 a05 a06 a07] w84) := ⟨HS.out.call hS⟩
          clear hS
          replace HS : Aside0 (Sep FF w [b7 g00 g01 a01 a02 a03 a04, b6 g01 A00 l00.length n00 t17.2.1, r5 A00 l00.length n00 t17.2.2, b14 g02 A01 l01.length n01 A02 l02.length n02, r11 A01 l01.length n01 l01, r11 A02 l02.length n02 l02] w84) := ⟨HS.out.sub (.cons_cons _ (.cons_cons _ (.cons_cons _ (.cons_cons _ (.cons_cons _ (.cons_cons _ (.cons _ .slnil)))))))⟩
          go_wp2_with fail
          go_ret
          rw [← some_eq H]
          exact ⟨(by first | rfl | (simp [IntKind.wrap_u32]; done)), HS.out⟩
       ·replace H := if_no c61 H
        have c61b0 : (a05 == 1) = false := beq_eq_false_iff_ne.mpr c61
        have c61b1 : (a05 != 1) = true := bne_iff_ne.mpr c61
        clear c61
        by_cases c66 : a05 = 2
        ·replace H := if_yes c66 H
         have c66b0 : (a05 == 2) = true := beq_iff_eq.mpr c66
         have c66b1 : (a05 != 2) = false := bne_eq_false_iff_eq.mpr c66
         clear c66
         have hc30 : w68.cell? ⟨g03, 0, none⟩ = some (.int .u8 a05) := blk_cellv (HS.out.at6) 0 rfl
         have hc41 : w68.cell? ⟨g03, 1, none⟩ = some (.int .i64 a06) := blk_cellv (HS.out.at6) 1 rfl
         go_wp2_with fail
         clear hc30 hc41
         obtain ⟨t19, HA76, H⟩ := bind_some H
         refine (chain_Take.calls l00 a00 a01 a02 a03 a04 a06 g00 g01 A00 l00.length n00 t19 _ ⟨HS.out.begin⟩ HA76).mono ?_
         rintro e_ w85 ⟨rfl, hS⟩
         replace HS : Aside0 (Sep FF w [b7 g00 g01 a01 a02 a03 a04, b6 g01 A00 l00.length n00 t19.2.2.1, r5 A00 l00.length n00 t19.2.2.2, b14 g02 A01 l01.length n01 A02 l02.length n02, r11 A01 l01.length n01 l01, r11 A02 l02.length n02 l02, b16 g03 a05 a06 a07] w85) := ⟨HS.out.call hS⟩
         clear hS
         by_cases c67 : (l02.length : Int) = 0
         ·replace H := if_yes c67 H
          have c67b0 : ((l02.length : Int) == 0) = true := beq_iff_eq.mpr c67
          have c67b1 : ((l02.length : Int) != 0) = false := bne_eq_false_iff_eq.mpr c67
          clear c67
          by_cases c68 : t19.1 = 0
          ·replace H := if_yes c68 H
           have c68b0 : (t19.1 == 0) = true := beq_iff_eq.mpr c68
           have c68b1 : (t19.1 != 0) = false := bne_eq_false_iff_eq.mpr c68
           clear c68
           by_cases c69 : t19.2.1 = true
           ·replace H := if_yes c69 H
            have c69b0 : t19.2.1 = true := c69
            have c69b1 : (!t19.2.1) = false := by rw [c69b0]; rfl
            try rw [c69b1]
            clear c69
            replace HS : Aside0 (Sep FF w [b7 g00 g01 a01 a02 a03 a04, b6 g01 A00 l00.length n00 t19.2.2.1, r5 A00 l00.length n00 t19.2.2.2, b14 g02 A01 l01.length n01 A02 l02.length n02, r11 A01 l01.length n01 l01, r11 A02 l02.length n02 l02] w85) := ⟨HS.out.sub (.cons_cons _ (.cons_cons _ (.cons_cons _ (.cons_cons _ (.cons_cons _ (.cons_cons _ (.cons _ .slnil)))))))⟩
            go_wp2_with fail
            go_ret
            rw [← some_eq H]
            exact ⟨(by first | rfl | (simp [IntKind.wrap_u32]; done)), HS.out⟩
           ·replace H := if_no c69 H
            have c69b0 : t19.2.1 = false := by simpa using c69
            have c69b1 : (!t19.2.1) = true := by rw [c69b0]; rfl
            try rw [c69b1]
            clear c69
            go_wp2_with fail
            obtain ⟨t20, HA77, H⟩ := bind_some H
            refine (ground_Ground_Meter.calls t19.2.2.2 t19.2.2.1 a01 a02 a03 a04 g00 g01 A00 l00.length n00 t20 _ ⟨HS.out.begin⟩ HA77).mono ?_
            rintro e_ w86 ⟨rfl, hS⟩
            replace HS : Aside0 (Sep FF w [b7 g00 g01 a01 a02 a03 a04, b6 g01 A00 l00.length n00 t19.2.2.1, r5 A00 l00.length n00 t19.2.2.2, b14 g02 A01 l01.length n01 A02 l02.length n02, r11 A01 l01.length n01 l01, r11 A02 l02.length n02 l02, b16 g03 a05 a06 a07] w86) := ⟨HS.out.call hS⟩
            clear hS
            replace HS : Aside0 (Sep FF w [b7 g00 g01 a01 a02 a03 a04, b6 g01 A00 l00.length n00 t19.2.2.1, r5 A00 l00.length n00 t19.2.2.2, b14 g02 A01 l01.length n01 A02 l02.length n02, r11 A01 l01.length n01 l01, r11 A02 l02.length n02 l02] w86) := ⟨HS.out.sub (.cons_cons _ (.cons_cons _ (.cons_cons _ (.cons_cons _ (.cons_cons _ (.cons_cons _ (.cons _ .slnil)))))))⟩
            go_wp2_with fail
            go_ret
            rw [← some_eq H]
            exact ⟨(by first | rfl | (simp [IntKind.wrap_u32]; done)), HS.out⟩
          ·replace H := if_no c68 H
           have c68b0 : (t19.1 == 0) = false := beq_eq_false_iff_ne.mpr c68
           have c68b1 : (t19.1 != 0) = true := bne_iff_ne.mpr c68
           clear c68
           replace HS : Aside0 (Sep FF w [b7 g00 g01 a01 a02 a03 a04, b6 g01 A00 l00.length n00 t19.2.2.1, r5 A00 l00.length n00 t19.2.2.2, b14 g02 A01 l01.length n01 A02 l02.length n02, r11 A01 l01.length n01 l01, r11 A02 l02.length n02 l02] w85) := ⟨HS.out.sub (.cons_cons _ (.cons_cons _ (.cons_cons _ (.cons_cons _ (.cons_cons _ (.cons_cons _ (.cons _ .slnil)))))))⟩
           go_wp2_with fail
           go_ret
           rw [← some_eq H]
           exact ⟨(by first | rfl | (simp [IntKind.wrap_u32]; done)), HS.out⟩
         ·replace H := if_no c67 H
          have c67b0 : ((l02.length : Int) == 0) = false := beq_eq_false_iff_ne.mpr c67
          have c67b1 : ((l02.length : Int) != 0) = true := bne_iff_ne.mpr c67
          clear c67
          go_wp2_with fail
          refine start_ (n := 6) (S := (fun w' => w'.cell? ⟨g03, 1, none⟩ = some (.int .i64 a06))) (ds := []) #[false, false, false, false, false, false] (by kernel_rfl) rfl rfl (blk_cellv ((HS.out.drew).at6) 1 rfl) (fun hHeld => ?_)
          have HS_ := Aside0.mk HS.out.drew
          clear HS
          generalize World.drew _ = w87 at HS_ hHeld ⊢
          have HS := HS_
          clear HS_
          refine pure_ (i := 0) (N := some 137) (v := ?_) (a' := ?_) #[true, false, false, false, false, false] rfl rfl (by kernel_rfl) (fun _ _ _ h => h) (Or.inl ⟨by rfl, ?_⟩) ?_ ?_
          rotate_left
          ·intro w'
           go_simp
           with_reducible rfl
          rotate_left
          ·simp only [Act.put, List.setIfInBounds_toArray, List.set_cons_zero, List.set_cons_succ, i64_w, i32_w]
           rfl
          refine pure_ (i := 1) (N := some 138) (v := ?_) (a' := ?_) #[true, true, false, false, false, false] rfl rfl (by kernel_rfl) (fun _ _ _ h => h) (Or.inl ⟨by rfl, ?_⟩) ?_ ?_
          rotate_left
          ·intro w'
           go_simp
           with_reducible rfl
          rotate_left
          ·simp only [Act.put, List.setIfInBounds_toArray, List.set_cons_zero, List.set_cons_succ, i64_w, i32_w]
           rfl
          refine pure_ (i := 3) (N := some 140) (v := ?_) (a' := ?_) #[true, true, false, true, false, false] rfl rfl (by kernel_rfl) (fun _ _ _ h => h) (Or.inl ⟨by rfl, ?_⟩) ?_ ?_
          rotate_left
          ·intro w'
           go_simp
           with_reducible rfl
          rotate_left
          ·simp only [Act.put, List.setIfInBounds_toArray, List.set_cons_zero, List.set_cons_succ, i64_w, i32_w]
           rfl
          refine take_ (i := 2) (N := some 139) (v := ?_) (a' := ?_) #[true, true, true, true, false, false] rfl rfl (by kernel_rfl) (fun _ _ _ h => h) (Or.inl ⟨by rfl, ?_⟩) hHeld ?_ ?_
          rotate_left
          ·rintro w' hS'
           have s0 := hS'
           go_simp
           with_reducible rfl
          rotate_left
          ·simp only [Act.put, List.setIfInBounds_toArray, List.set_cons_zero, List.set_cons_succ, i64_w, i32_w]
           rfl
          refine one_ (i := 4) (N := some 141) #[true, true, true, true, true, false] rfl rfl (by kernel_rfl) (by decide) (fun K hK => ?_)
          obtain ⟨t21, HA78, H⟩ := bind_some H
          refine goes_ Try.func97 (by kernel_rfl) rfl #[.slice A02 l02.length n02] (by rfl) rfl rfl (by (try simp only [List.map_toArray, List.map_cons, List.map_nil]); first | done | rfl) ?_
          refine (quitrentref08_Rest.calls _ l02 A02 n02 t21 _ ⟨Rd.ownI (l := []) HS.out 5 rfl⟩ ⟨Sep.start _⟩ HA78).mono ?_
          rintro e_ w88 ⟨A15, m15, n15, rfl, hS⟩
          replace HS : Aside0 (Sep FF w [r11 A15 m15 n15 t21, b7 g00 g01 a01 a02 a03 a04, b6 g01 A00 l00.length n00 t19.2.2.1, r5 A00 l00.length n00 t19.2.2.2, b14 g02 A01 l01.length n01 A02 l02.length n02, r11 A01 l01.length n01 l01, r11 A02 l02.length n02 l02, b16 g03 a05 a06 a07] w88) := ⟨HS.out.call hS⟩
          clear hS
          obtain rfl := (row_len (HS.out.at0)).symm
          refine ⟨_, rfl, ?_⟩
          refine hK.out _ _ (blk_cellv (HS.out.at7) 1 rfl) (fun hHeld => ?_)
          clear hK K
          refine norm_ (a' := ?_) ?_ ?_
          rotate_left
          ·show Act.put _ (some 141) _ = _
           simp only [Act.put, List.setIfInBounds_toArray, List.set_cons_zero, List.set_cons_succ, i64_w, i32_w]
           rfl
          refine one_ (i := 5) (N := some 142) #[true, true, true, true, true, true] rfl rfl (by kernel_rfl) (by decide) (fun K hK => ?_)
          replace HS : Aside0 (Sep FF w [b14 g02 A01 l01.length n01 A02 l02.length n02, r11 A01 l01.length n01 l01, r11 A02 l02.length n02 l02, r11 A15 t21.length n15 t21, b7 g00 g01 a01 a02 a03 a04, b6 g01 A00 l00.length n00 t19.2.2.1, r5 A00 l00.length n00 t19.2.2.2, b16 g03 a05 a06 a07] w88) := ⟨(((HS.out).front 6 (by simp)).front 6 (by simp)).front 6 (by simp)⟩
          obtain ⟨t22, HA79, H⟩ := bind_some H
          rcases t22 with t23 | t24
          ·have H := sum_l H
           exact (none_no H).elim
          ·have H := sum_r H
           refine goes_ Try.func94 (by kernel_rfl) rfl #[.pointer (some ⟨g02, 0, none⟩), .int .i64 a06, .slice A15 t21.length n15] (by rfl) rfl rfl (by (try simp only [List.map_toArray, List.map_cons, List.map_nil]); first | done | rfl) ?_
           refine (quitrentref08_Chains_Set_1.calls l01 l02 a06 t21 g02 A01 l01.length n01 A02 l02.length n02 A15 t21.length n15 (.inr t24) _ ⟨HS.out.begin⟩ HA79).mono ?_
           rintro e_ w89 ⟨rfl, hS⟩
           replace HS : Aside0 (Sep FF w [b14 g02 A01 l01.length n01 A15 t21.length n15, r11 A01 l01.length n01 l01, r11 A02 l02.length n02 l02, r11 A15 t21.length n15 t21, b7 g00 g01 a01 a02 a03 a04, b6 g01 A00 l00.length n00 t19.2.2.1, r5 A00 l00.length n00 t19.2.2.2, b16 g03 a05 a06 a07] w89) := ⟨HS.out.call hS⟩
           clear hS
           refine ⟨_, rfl, ?_⟩
           refine hK.out _ _ (blk_cellv (HS.out.at7) 1 rfl) (fun hHeld => ?_)
           clear hK K
           refine norm_ (a' := ?_) ?_ ?_
           rotate_left
           ·show Act.put _ (some 142) _ = _
            simp only [Act.put, List.setIfInBounds_toArray, List.set_cons_zero, List.set_cons_succ, i64_w, i32_w]
            rfl
           refine done_ (by kernel_rfl) ?_
           by_cases c70 : 0 < (l02.length : Int)
           ·replace H := if_yes c70 H
            have c70b0 : decide (0 < (l02.length : Int)) = true := decide_eq_true c70
            have c70b1 : decide (0 < l02.length) = true := decide_eq_true (by omega)
            have c70p : (0 < (l02.length : Int)) = True := eq_true c70
            have c70n : (0 < l02.length) = True := eq_true (by omega)
            clear c70
            by_cases c71 : t19.1 = (rd l02 0)
            ·replace H := if_yes c71 H
             have c71b0 : (t19.1 == (rd l02 0)) = true := beq_iff_eq.mpr c71
             have c71b1 : (t19.1 != (rd l02 0)) = false := bne_eq_false_iff_eq.mpr c71
             clear c71
             by_cases c72 : t19.2.1 = true
             ·replace H := if_yes c72 H
              have c72b0 : t19.2.1 = true := c72
              have c72b1 : (!t19.2.1) = false := by rw [c72b0]; rfl
              clear c72
              replace HS : Aside0 (Sep FF w [b14 g02 A01 l01.length n01 A15 t21.length n15, r11 A01 l01.length n01 l01, r11 A02 l02.length n02 l02, r11 A15 t21.length n15 t21, b7 g00 g01 a01 a02 a03 a04, b6 g01 A00 l00.length n00 t19.2.2.1, r5 A00 l00.length n00 t19.2.2.2] w89) := ⟨HS.out.sub (.cons_cons _ (.cons_cons _ (.cons_cons _ (.cons_cons _ (.cons_cons _ (.cons_cons _ (.cons_cons _ (.cons _ .slnil))))))))⟩
              obtain ⟨g08, ea⟩ := row_at (HS.out.at2) (by have := True.intro; have := (of_decide_eq_true c70b0); omega); cases ea
              have hx08 := C_at_int (row_Ci (HS.out.at2)) 0 (by decide) (of_decide_eq_true c70b0)
              have hx09 : w89.cell? ⟨g08, 0, none⟩ = some (.int .i64 (rd l02 0)) := (row_get 0 (HS.out.at2) 0 (by decide) (of_decide_eq_true c70b0)).1
              go_wp2_with fail
              clear hx08 hx09
              replace HS : Aside0 (Sep FF w [b7 g00 g01 a01 a02 a03 a04, b6 g01 A00 l00.length n00 t19.2.2.1, r5 A00 l00.length n00 t19.2.2.2, b14 g02 A01 l01.length n01 A15 t21.length n15, r11 A01 l01.length n01 l01, r11 (some ⟨g08, 0, none⟩) l02.length n02 l02, r11 A15 t21.length n15 t21] w89) := ⟨(((HS.out).front 6 (by simp)).front 6 (by simp)).front 6 (by simp)⟩
              obtain ⟨t25, HA80, H⟩ := bind_some H
              refine (ground_Ground_SeeWord.calls t19.2.2.2 t19.2.2.1 a01 a02 a03 a04 t19.1 5 g00 g01 A00 l00.length n00 t25 _ ⟨HS.out.begin⟩ HA80).mono ?_
              rintro e_ w90 ⟨rfl, hS⟩
              replace HS : Aside0 (Sep FF w [b7 g00 g01 a01 a02 a03 a04, b6 g01 A00 l00.length n00 t19.2.2.1, r5 A00 l00.length n00 t19.2.2.2, b14 g02 A01 l01.length n01 A15 t21.length n15, r11 A01 l01.length n01 l01, r11 (some ⟨g08, 0, none⟩) l02.length n02 l02, r11 A15 t21.length n15 t21] w90) := ⟨HS.out.call hS⟩
              clear hS
              by_cases c73 : t25 = 0
              ·replace H := if_yes c73 H
               have c73b0 : (t25 == 0) = true := beq_iff_eq.mpr c73
               have c73b1 : (t25 != 0) = false := bne_eq_false_iff_eq.mpr c73
               clear c73
               go_wp2_with fail
               obtain ⟨t26, HA81, H⟩ := bind_some H
               refine (ground_Ground_Meter.calls t19.2.2.2 t19.2.2.1 a01 a02 a03 a04 g00 g01 A00 l00.length n00 t26 _ ⟨HS.out.begin⟩ HA81).mono ?_
               rintro e_ w91 ⟨rfl, hS⟩
               replace HS : Aside0 (Sep FF w [b7 g00 g01 a01 a02 a03 a04, b6 g01 A00 l00.length n00 t19.2.2.1, r5 A00 l00.length n00 t19.2.2.2, b14 g02 A01 l01.length n01 A15 t21.length n15, r11 A01 l01.length n01 l01, r11 (some ⟨g08, 0, none⟩) l02.length n02 l02, r11 A15 t21.length n15 t21] w91) := ⟨HS.out.call hS⟩
               clear hS
               go_wp2_with fail
               go_ret
               rw [← some_eq H]
               exact ⟨(by first | rfl | (simp [IntKind.wrap_u32]; done)), A15, t21.length, n15, HS.out⟩
              ·replace H := if_no c73 H
               have c73b0 : (t25 == 0) = false := beq_eq_false_iff_ne.mpr c73
               have c73b1 : (t25 != 0) = true := bne_iff_ne.mpr c73
               clear c73
               go_wp2_with fail
               go_ret
               rw [← some_eq H]
               exact ⟨(by first | rfl | (simp [IntKind.wrap_u32]; done)), A15, t21.length, n15, HS.out⟩
             ·replace H := if_no c72 H
              have c72b0 : t19.2.1 = false := by simpa using c72
              have c72b1 : (!t19.2.1) = true := by rw [c72b0]; rfl
              clear c72
              replace HS : Aside0 (Sep FF w [b14 g02 A01 l01.length n01 A15 t21.length n15, r11 A01 l01.length n01 l01, r11 A02 l02.length n02 l02, r11 A15 t21.length n15 t21, b7 g00 g01 a01 a02 a03 a04, b6 g01 A00 l00.length n00 t19.2.2.1, r5 A00 l00.length n00 t19.2.2.2] w89) := ⟨HS.out.sub (.cons_cons _ (.cons_cons _ (.cons_cons _ (.cons_cons _ (.cons_cons _ (.cons_cons _ (.cons_cons _ (.cons _ .slnil))))))))⟩
              obtain ⟨g08, ea⟩ := row_at (HS.out.at2) (by have := True.intro; have := (of_decide_eq_true c70b0); omega); cases ea
              have hx08 := C_at_int (row_Ci (HS.out.at2)) 0 (by decide) (of_decide_eq_true c70b0)
              have hx09 : w89.cell? ⟨g08, 0, none⟩ = some (.int .i64 (rd l02 0)) := (row_get 0 (HS.out.at2) 0 (by decide) (of_decide_eq_true c70b0)).1
              go_wp2_with fail
              clear hx08 hx09
              go_ret
              rw [← some_eq H]
              exact ⟨(by first | rfl | (simp [IntKind.wrap_u32]; done)), A15, t21.length, n15, ((((((((HS.out).front 3 (by simp)).front 3 (by simp)).front 3 (by simp)).front 3 (by simp)).front 6 (by simp)).front 6 (by simp)).front 6 (by simp)).keep (l := [b7 g00 g01 a01 a02 a03 a04, b6 g01 A00 l00.length n00 t19.2.2.1, r5 A00 l00.length n00 t19.2.2.2, b14 g02 A01 l01.length n01 A15 t21.length n15, r11 A01 l01.length n01 l01, r11 (some ⟨g08, 0, none⟩) l02.length n02 l02, r11 A15 t21.length n15 t21]) (rest := [])⟩
            ·replace H := if_no c71 H
             have c71b0 : (t19.1 == (rd l02 0)) = false := beq_eq_false_iff_ne.mpr c71
             have c71b1 : (t19.1 != (rd l02 0)) = true := bne_iff_ne.mpr c71
             clear c71
             replace HS : Aside0 (Sep FF w [b14 g02 A01 l01.length n01 A15 t21.length n15, r11 A01 l01.length n01 l01, r11 A02 l02.length n02 l02, r11 A15 t21.length n15 t21, b7 g00 g01 a01 a02 a03 a04, b6 g01 A00 l00.length n00 t19.2.2.1, r5 A00 l00.length n00 t19.2.2.2] w89) := ⟨HS.out.sub (.cons_cons _ (.cons_cons _ (.cons_cons _ (.cons_cons _ (.cons_cons _ (.cons_cons _ (.cons_cons _ (.cons _ .slnil))))))))⟩
             obtain ⟨g08, ea⟩ := row_at (HS.out.at2) (by have := True.intro; have := (of_decide_eq_true c70b0); omega); cases ea
             have hx08 := C_at_int (row_Ci (HS.out.at2)) 0 (by decide) (of_decide_eq_true c70b0)
             have hx09 : w89.cell? ⟨g08, 0, none⟩ = some (.int .i64 (rd l02 0)) := (row_get 0 (HS.out.at2) 0 (by decide) (of_decide_eq_true c70b0)).1
             go_wp2_with fail
             clear hx08 hx09
             go_ret
             rw [← some_eq H]
             exact ⟨(by first | rfl | (simp [IntKind.wrap_u32]; done)), A15, t21.length, n15, ((((((((HS.out).front 3 (by simp)).front 3 (by simp)).front 3 (by simp)).front 3 (by simp)).front 6 (by simp)).front 6 (by simp)).front 6 (by simp)).keep (l := [b7 g00 g01 a01 a02 a03 a04, b6 g01 A00 l00.length n00 t19.2.2.1, r5 A00 l00.length n00 t19.2.2.2, b14 g02 A01 l01.length n01 A15 t21.length n15, r11 A01 l01.length n01 l01, r11 (some ⟨g08, 0, none⟩) l02.length n02 l02, r11 A15 t21.length n15 t21]) (rest := [])⟩
           ·replace H := if_no c70 H
            have c70b0 : decide (0 < (l02.length : Int)) = false := decide_eq_false c70
            have c70b1 : decide (0 < l02.length) = false := decide_eq_false (by omega)
            clear c70
            exact (none_no H).elim
        ·replace H := if_no c66 H
         have c66b0 : (a05 == 2) = false := beq_eq_false_iff_ne.mpr c66
         have c66b1 : (a05 != 2) = true := bne_iff_ne.mpr c66
         clear c66
         have hc30 : w68.cell? ⟨g03, 0, none⟩ = some (.int .u8 a05) := blk_cellv (HS.out.at6) 0 rfl
         have hc42 : w68.cell? ⟨g03, 1, none⟩ = some (.int .i64 a06) := blk_cellv (HS.out.at6) 1 rfl
         go_wp2_with fail
         clear hc30 hc42
         obtain ⟨t27, HA82, H⟩ := bind_some H
         refine (chain_First.calls l00 a00 a01 a02 a03 a04 a06 g00 g01 A00 l00.length n00 t27 _ ⟨HS.out.begin⟩ HA82).mono ?_
         rintro e_ w92 ⟨rfl, hS⟩
         replace HS : Aside0 (Sep FF w [b7 g00 g01 a01 a02 a03 a04, b6 g01 A00 l00.length n00 t27.2.2, r5 A00 l00.length n00 l00, b14 g02 A01 l01.length n01 A02 l02.length n02, r11 A01 l01.length n01 l01, r11 A02 l02.length n02 l02, b16 g03 a05 a06 a07] w92) := ⟨HS.out.call hS⟩
         clear hS
         have hc43 : w92.cell? ⟨g03, 1, none⟩ = some (.int .i64 a06) := blk_cellv (HS.out.at6) 1 rfl
         go_wp2_with fail
         clear hc43
         obtain ⟨t28, HA83, H⟩ := bind_some H
         refine (chain_Len.calls l00 t27.2.2 a01 a02 a03 a04 a06 g00 g01 A00 l00.length n00 t28 _ ⟨HS.out.begin⟩ HA83).mono ?_
         rintro e_ w93 ⟨rfl, hS⟩
         replace HS : Aside0 (Sep FF w [b7 g00 g01 a01 a02 a03 a04, b6 g01 A00 l00.length n00 t28.2, r5 A00 l00.length n00 l00, b14 g02 A01 l01.length n01 A02 l02.length n02, r11 A01 l01.length n01 l01, r11 A02 l02.length n02 l02, b16 g03 a05 a06 a07] w93) := ⟨HS.out.call hS⟩
         clear hS
         by_cases c74 : t28.1 = (l02.length : Int)
         ·replace H := if_yes c74 H
          have c74b0 : (t28.1 == (l02.length : Int)) = true := beq_iff_eq.mpr c74
          have c74b1 : (t28.1 != (l02.length : Int)) = false := bne_eq_false_iff_eq.mpr c74
          clear c74
          by_cases c75 : t27.2.1 = true
          ·replace H := if_yes c75 H
           have c75b0 : t27.2.1 = true := c75
           have c75b1 : (!t27.2.1) = false := by rw [c75b0]; rfl
           clear c75
           by_cases c76 : (l02.length : Int) > 0
           ·replace H := if_yes c76 H
            have c76b0 : decide (0 < (l02.length : Int)) = true := decide_eq_true c76
            have c76b1 : decide (0 < l02.length) = true := decide_eq_true (by omega)
            clear c76
            by_cases c77 : 0 < (l02.length : Int)
            ·replace H := if_yes c77 H
             have c77b0 : decide (0 < (l02.length : Int)) = true := decide_eq_true c77
             have c77b1 : decide (0 < l02.length) = true := decide_eq_true (by omega)
             have c77p : (0 < (l02.length : Int)) = True := eq_true c77
             have c77n : (0 < l02.length) = True := eq_true (by omega)
             clear c77
             by_cases c78 : t27.1 = (rd l02 0)
             ·replace H := if_yes c78 H
              have c78b0 : (t27.1 == (rd l02 0)) = true := beq_iff_eq.mpr c78
              have c78b1 : (t27.1 != (rd l02 0)) = false := bne_eq_false_iff_eq.mpr c78
              clear c78
              obtain ⟨g09, ea⟩ := row_at (HS.out.at5) (by have := True.intro; have := (of_decide_eq_true c77b0); omega); cases ea
              have hx10 := C_at_int (row_Ci (HS.out.at5)) 0 (by decide) (of_decide_eq_true c77b0)
              have hx11 : w93.cell? ⟨g09, 0, none⟩ = some (.int .i64 (rd l02 0)) := (row_get 0 (HS.out.at5) 0 (by decide) (of_decide_eq_true c77b0)).1
              go_wp2_with fail
              clear hx10 hx11
              obtain ⟨t29, HA84, H⟩ := bind_some H
              refine (ground_Ground_Meter.calls l00 t28.2 a01 a02 a03 a04 g00 g01 A00 l00.length n00 t29 _ ⟨HS.out.begin⟩ HA84).mono ?_
              rintro e_ w94 ⟨rfl, hS⟩
              replace HS : Aside0 (Sep FF w [b7 g00 g01 a01 a02 a03 a04, b6 g01 A00 l00.length n00 t28.2, r5 A00 l00.length n00 l00, b14 g02 A01 l01.length n01 (some ⟨g09, 0, none⟩) l02.length n02, r11 A01 l01.length n01 l01, r11 (some ⟨g09, 0, none⟩) l02.length n02 l02, b16 g03 a05 a06 a07] w94) := ⟨HS.out.call hS⟩
              clear hS
              by_cases c79 : (IntKind.u64.wrap (t29 - t04)) > 32
              ·replace H := if_yes c79 H
               have c79b0 : decide (32 < (IntKind.u64.wrap (t29 - t04))) = true := decide_eq_true c79
               clear c79
               replace HS : Aside0 (Sep FF w [b7 g00 g01 a01 a02 a03 a04, b6 g01 A00 l00.length n00 t28.2, r5 A00 l00.length n00 l00, b14 g02 A01 l01.length n01 (some ⟨g09, 0, none⟩) l02.length n02, r11 A01 l01.length n01 l01, r11 (some ⟨g09, 0, none⟩) l02.length n02 l02] w94) := ⟨HS.out.sub (.cons_cons _ (.cons_cons _ (.cons_cons _ (.cons_cons _ (.cons_cons _ (.cons_cons _ (.cons _ .slnil)))))))⟩
               go_wp2_with fail
               go_ret
               rw [← some_eq H]
               exact ⟨(by first | rfl | (simp [IntKind.wrap_u32]; done)), HS.out⟩
              ·replace H := if_no c79 H
               have c79b0 : decide (32 < (IntKind.u64.wrap (t29 - t04))) = false := decide_eq_false c79
               clear c79
               go_wp2_with fail
               obtain ⟨t30, HA85, H⟩ := bind_some H
               refine (ground_Ground_Meter.calls l00 t28.2 a01 a02 a03 a04 g00 g01 A00 l00.length n00 t30 _ ⟨HS.out.begin⟩ HA85).mono ?_
               rintro e_ w95 ⟨rfl, hS⟩
               replace HS : Aside0 (Sep FF w [b7 g00 g01 a01 a02 a03 a04, b6 g01 A00 l00.length n00 t28.2, r5 A00 l00.length n00 l00, b14 g02 A01 l01.length n01 (some ⟨g09, 0, none⟩) l02.length n02, r11 A01 l01.length n01 l01, r11 (some ⟨g09, 0, none⟩) l02.length n02 l02, b16 g03 a05 a06 a07] w95) := ⟨HS.out.call hS⟩
               clear hS
               have hc44 : w95.cell? ⟨g03, 1, none⟩ = some (.int .i64 a06) := blk_cellv (HS.out.at6) 1 rfl
               go_wp2_with fail
               clear hc44
               obtain ⟨t31, HA86, H⟩ := bind_some H
               refine (chain_List.calls _ l00 t28.2 a01 a02 a03 a04 a06 g00 g01 A00 l00.length n00 t31 _ ⟨HS.out.begin⟩ HA86).mono ?_
               rintro e_ w96 ⟨A16, m16, n16, rfl, hS⟩
               replace HS : Aside0 (Sep FF w [b7 g00 g01 a01 a02 a03 a04, b6 g01 A00 l00.length n00 t28.2, r5 A00 l00.length n00 l00, r11 A16 m16 n16 t31, b14 g02 A01 l01.length n01 (some ⟨g09, 0, none⟩) l02.length n02, r11 A01 l01.length n01 l01, r11 (some ⟨g09, 0, none⟩) l02.length n02 l02, b16 g03 a05 a06 a07] w96) := ⟨HS.out.call hS⟩
               clear hS
               obtain rfl := (row_len (HS.out.at3)).symm
               go_wp2_with fail
               obtain ⟨t32, HA87, H⟩ := bind_some H
               refine (quitrentref01_Ints.calls _ t31 l02 A16 n16 (some ⟨g09, 0, none⟩) n02 t32 _ ⟨Rd.ownI (l := []) HS.out 3 rfl⟩ ⟨Rd.ownI (l := []) HS.out 6 rfl⟩ ⟨Sep.start _⟩ HA87).mono ?_
               rintro e_ w97 ⟨rfl, hS⟩
               replace HS : Aside0 (Sep FF w [b7 g00 g01 a01 a02 a03 a04, b6 g01 A00 l00.length n00 t28.2, r5 A00 l00.length n00 l00, r11 A16 t31.length n16 t31, b14 g02 A01 l01.length n01 (some ⟨g09, 0, none⟩) l02.length n02, r11 A01 l01.length n01 l01, r11 (some ⟨g09, 0, none⟩) l02.length n02 l02, b16 g03 a05 a06 a07] w97) := ⟨HS.out.call hS⟩
               clear hS
               by_cases c80 : t32 = true
               ·replace H := if_yes c80 H
                have c80b0 : t32 = true := c80
                have c80b1 : (!t32) = false := by rw [c80b0]; rfl
                clear c80
                go_wp2_with fail
                obtain ⟨t33, HA88, H⟩ := bind_some H
                refine (ground_Ground_Meter.calls l00 t28.2 a01 a02 a03 a04 g00 g01 A00 l00.length n00 t33 _ ⟨HS.out.begin⟩ HA88).mono ?_
                rintro e_ w98 ⟨rfl, hS⟩
                replace HS : Aside0 (Sep FF w [b7 g00 g01 a01 a02 a03 a04, b6 g01 A00 l00.length n00 t28.2, r5 A00 l00.length n00 l00, r11 A16 t31.length n16 t31, b14 g02 A01 l01.length n01 (some ⟨g09, 0, none⟩) l02.length n02, r11 A01 l01.length n01 l01, r11 (some ⟨g09, 0, none⟩) l02.length n02 l02, b16 g03 a05 a06 a07] w98) := ⟨HS.out.call hS⟩
                clear hS
                replace HS : Aside0 (Sep FF w [b7 g00 g01 a01 a02 a03 a04, b6 g01 A00 l00.length n00 t28.2, r5 A00 l00.length n00 l00, b14 g02 A01 l01.length n01 (some ⟨g09, 0, none⟩) l02.length n02, r11 A01 l01.length n01 l01, r11 (some ⟨g09, 0, none⟩) l02.length n02 l02] w98) := ⟨HS.out.sub (.cons_cons _ (.cons_cons _ (.cons_cons _ (.cons _ (.cons_cons _ (.cons_cons _ (.cons_cons _ (.cons _ .slnil))))))))⟩
                go_wp2_with fail
                go_ret
                rw [← some_eq H]
                exact ⟨(by first | rfl | (simp [IntKind.wrap_u32]; done)), HS.out⟩
               ·replace H := if_no c80 H
                have c80b0 : t32 = false := by simpa using c80
                have c80b1 : (!t32) = true := by rw [c80b0]; rfl
                clear c80
                replace HS : Aside0 (Sep FF w [b7 g00 g01 a01 a02 a03 a04, b6 g01 A00 l00.length n00 t28.2, r5 A00 l00.length n00 l00, b14 g02 A01 l01.length n01 (some ⟨g09, 0, none⟩) l02.length n02, r11 A01 l01.length n01 l01, r11 (some ⟨g09, 0, none⟩) l02.length n02 l02] w97) := ⟨HS.out.sub (.cons_cons _ (.cons_cons _ (.cons_cons _ (.cons _ (.cons_cons _ (.cons_cons _ (.cons_cons _ (.cons _ .slnil))))))))⟩
                go_wp2_with fail
                go_ret
                rw [← some_eq H]
                exact ⟨(by first | rfl | (simp [IntKind.wrap_u32]; done)), HS.out⟩
             ·replace H := if_no c78 H
              have c78b0 : (t27.1 == (rd l02 0)) = false := beq_eq_false_iff_ne.mpr c78
              have c78b1 : (t27.1 != (rd l02 0)) = true := bne_iff_ne.mpr c78
              clear c78
              obtain ⟨g09, ea⟩ := row_at (HS.out.at5) (by have := True.intro; have := (of_decide_eq_true c77b0); omega); cases ea
              have hx10 := C_at_int (row_Ci (HS.out.at5)) 0 (by decide) (of_decide_eq_true c77b0)
              have hx11 : w93.cell? ⟨g09, 0, none⟩ = some (.int .i64 (rd l02 0)) := (row_get 0 (HS.out.at5) 0 (by decide) (of_decide_eq_true c77b0)).1
              replace HS : Aside0 (Sep FF w [b7 g00 g01 a01 a02 a03 a04, b6 g01 A00 l00.length n00 t28.2, r5 A00 l00.length n00 l00, b14 g02 A01 l01.length n01 (some ⟨g09, 0, none⟩) l02.length n02, r11 A01 l01.length n01 l01, r11 (some ⟨g09, 0, none⟩) l02.length n02 l02] w93) := ⟨HS.out.sub (.cons_cons _ (.cons_cons _ (.cons_cons _ (.cons_cons _ (.cons_cons _ (.cons_cons _ (.cons _ .slnil)))))))⟩
              go_wp2_with fail
              clear hx10 hx11
              go_ret
              rw [← some_eq H]
              exact ⟨(by first | rfl | (simp [IntKind.wrap_u32]; done)), HS.out⟩
            ·replace H := if_no c77 H
             have c77b0 : decide (0 < (l02.length : Int)) = false := decide_eq_false c77
             have c77b1 : decide (0 < l02.length) = false := decide_eq_false (by omega)
             clear c77
             exact (none_no H).elim
           ·replace H := if_no c76 H
            have c76b0 : decide (0 < (l02.length : Int)) = false := decide_eq_false c76
            have c76b1 : decide (0 < l02.length) = false := decide_eq_false (by omega)
            clear c76
            replace HS : Aside0 (Sep FF w [b7 g00 g01 a01 a02 a03 a04, b6 g01 A00 l00.length n00 t28.2, r5 A00 l00.length n00 l00, b14 g02 A01 l01.length n01 A02 l02.length n02, r11 A01 l01.length n01 l01, r11 A02 l02.length n02 l02] w93) := ⟨HS.out.sub (.cons_cons _ (.cons_cons _ (.cons_cons _ (.cons_cons _ (.cons_cons _ (.cons_cons _ (.cons _ .slnil)))))))⟩
            go_wp2_with fail
            go_ret
            rw [← some_eq H]
            exact ⟨(by first | rfl | (simp [IntKind.wrap_u32]; done)), HS.out⟩
          ·replace H := if_no c75 H
           have c75b0 : t27.2.1 = false := by simpa using c75
           have c75b1 : (!t27.2.1) = true := by rw [c75b0]; rfl
           clear c75
           by_cases c81 : (l02.length : Int) > 0
           ·replace H := if_yes c81 H
            have c81b0 : decide (0 < (l02.length : Int)) = true := decide_eq_true c81
            have c81b1 : decide (0 < l02.length) = true := decide_eq_true (by omega)
            clear c81
            replace HS : Aside0 (Sep FF w [b7 g00 g01 a01 a02 a03 a04, b6 g01 A00 l00.length n00 t28.2, r5 A00 l00.length n00 l00, b14 g02 A01 l01.length n01 A02 l02.length n02, r11 A01 l01.length n01 l01, r11 A02 l02.length n02 l02] w93) := ⟨HS.out.sub (.cons_cons _ (.cons_cons _ (.cons_cons _ (.cons_cons _ (.cons_cons _ (.cons_cons _ (.cons _ .slnil)))))))⟩
            go_wp2_with fail
            go_ret
            rw [← some_eq H]
            exact ⟨(by first | rfl | (simp [IntKind.wrap_u32]; done)), HS.out⟩
           ·replace H := if_no c81 H
            have c81b0 : decide (0 < (l02.length : Int)) = false := decide_eq_false c81
            have c81b1 : decide (0 < l02.length) = false := decide_eq_false (by omega)
            clear c81
            by_cases c82 : t27.1 = 0
            ·replace H := if_yes c82 H
             have c82b0 : (t27.1 == 0) = true := beq_iff_eq.mpr c82
             have c82b1 : (t27.1 != 0) = false := bne_eq_false_iff_eq.mpr c82
             clear c82
             go_wp2_with fail
             obtain ⟨t29, HA89, H⟩ := bind_some H
             refine (ground_Ground_Meter.calls l00 t28.2 a01 a02 a03 a04 g00 g01 A00 l00.length n00 t29 _ ⟨HS.out.begin⟩ HA89).mono ?_
             rintro e_ w99 ⟨rfl, hS⟩
             replace HS : Aside0 (Sep FF w [b7 g00 g01 a01 a02 a03 a04, b6 g01 A00 l00.length n00 t28.2, r5 A00 l00.length n00 l00, b14 g02 A01 l01.length n01 A02 l02.length n02, r11 A01 l01.length n01 l01, r11 A02 l02.length n02 l02, b16 g03 a05 a06 a07] w99) := ⟨HS.out.call hS⟩
             clear hS
             by_cases c83 : (IntKind.u64.wrap (t29 - t04)) > 32
             ·replace H := if_yes c83 H
              have c83b0 : decide (32 < (IntKind.u64.wrap (t29 - t04))) = true := decide_eq_true c83
              clear c83
              replace HS : Aside0 (Sep FF w [b7 g00 g01 a01 a02 a03 a04, b6 g01 A00 l00.length n00 t28.2, r5 A00 l00.length n00 l00, b14 g02 A01 l01.length n01 A02 l02.length n02, r11 A01 l01.length n01 l01, r11 A02 l02.length n02 l02] w99) := ⟨HS.out.sub (.cons_cons _ (.cons_cons _ (.cons_cons _ (.cons_cons _ (.cons_cons _ (.cons_cons _ (.cons _ .slnil)))))))⟩
              go_wp2_with fail
              go_ret
              rw [← some_eq H]
              exact ⟨(by first | rfl | (simp [IntKind.wrap_u32]; done)), HS.out⟩
             ·replace H := if_no c83 H
              have c83b0 : decide (32 < (IntKind.u64.wrap (t29 - t04))) = false := decide_eq_false c83
              clear c83
              go_wp2_with fail
              obtain ⟨t30, HA90, H⟩ := bind_some H
              refine (ground_Ground_Meter.calls l00 t28.2 a01 a02 a03 a04 g00 g01 A00 l00.length n00 t30 _ ⟨HS.out.begin⟩ HA90).mono ?_
              rintro e_ w100 ⟨rfl, hS⟩
              replace HS : Aside0 (Sep FF w [b7 g00 g01 a01 a02 a03 a04, b6 g01 A00 l00.length n00 t28.2, r5 A00 l00.length n00 l00, b14 g02 A01 l01.length n01 A02 l02.length n02, r11 A01 l01.length n01 l01, r11 A02 l02.length n02 l02, b16 g03 a05 a06 a07] w100) := ⟨HS.out.call hS⟩
              clear hS
              have hc45 : w100.cell? ⟨g03, 1, none⟩ = some (.int .i64 a06) := blk_cellv (HS.out.at6) 1 rfl
              go_wp2_with fail
              clear hc45
              obtain ⟨t31, HA91, H⟩ := bind_some H
              refine (chain_List.calls _ l00 t28.2 a01 a02 a03 a04 a06 g00 g01 A00 l00.length n00 t31 _ ⟨HS.out.begin⟩ HA91).mono ?_
              rintro e_ w101 ⟨A17, m17, n17, rfl, hS⟩
              replace HS : Aside0 (Sep FF w [b7 g00 g01 a01 a02 a03 a04, b6 g01 A00 l00.length n00 t28.2, r5 A00 l00.length n00 l00, r11 A17 m17 n17 t31, b14 g02 A01 l01.length n01 A02 l02.length n02, r11 A01 l01.length n01 l01, r11 A02 l02.length n02 l02, b16 g03 a05 a06 a07] w101) := ⟨HS.out.call hS⟩
              clear hS
              obtain rfl := (row_len (HS.out.at3)).symm
              go_wp2_with fail
              obtain ⟨t32, HA92, H⟩ := bind_some H
              refine (quitrentref01_Ints.calls _ t31 l02 A17 n17 A02 n02 t32 _ ⟨Rd.ownI (l := []) HS.out 3 rfl⟩ ⟨Rd.ownI (l := []) HS.out 6 rfl⟩ ⟨Sep.start _⟩ HA92).mono ?_
              rintro e_ w102 ⟨rfl, hS⟩
              replace HS : Aside0 (Sep FF w [b7 g00 g01 a01 a02 a03 a04, b6 g01 A00 l00.length n00 t28.2, r5 A00 l00.length n00 l00, r11 A17 t31.length n17 t31, b14 g02 A01 l01.length n01 A02 l02.length n02, r11 A01 l01.length n01 l01, r11 A02 l02.length n02 l02, b16 g03 a05 a06 a07] w102) := ⟨HS.out.call hS⟩
              clear hS
              by_cases c84 : t32 = true
              ·replace H := if_yes c84 H
               have c84b0 : t32 = true := c84
               have c84b1 : (!t32) = false := by rw [c84b0]; rfl
               clear c84
               go_wp2_with fail
               obtain ⟨t33, HA93, H⟩ := bind_some H
               refine (ground_Ground_Meter.calls l00 t28.2 a01 a02 a03 a04 g00 g01 A00 l00.length n00 t33 _ ⟨HS.out.begin⟩ HA93).mono ?_
               rintro e_ w103 ⟨rfl, hS⟩
               replace HS : Aside0 (Sep FF w [b7 g00 g01 a01 a02 a03 a04, b6 g01 A00 l00.length n00 t28.2, r5 A00 l00.length n00 l00, r11 A17 t31.length n17 t31, b14 g02 A01 l01.length n01 A02 l02.length n02, r11 A01 l01.length n01 l01, r11 A02 l02.length n02 l02, b16 g03 a05 a06 a07] w103) := ⟨HS.out.call hS⟩
               clear hS
               replace HS : Aside0 (Sep FF w [b7 g00 g01 a01 a02 a03 a04, b6 g01 A00 l00.length n00 t28.2, r5 A00 l00.length n00 l00, b14 g02 A01 l01.length n01 A02 l02.length n02, r11 A01 l01.length n01 l01, r11 A02 l02.length n02 l02] w103) := ⟨HS.out.sub (.cons_cons _ (.cons_cons _ (.cons_cons _ (.cons _ (.cons_cons _ (.cons_cons _ (.cons_cons _ (.cons _ .slnil))))))))⟩
               go_wp2_with fail
               go_ret
               rw [← some_eq H]
               exact ⟨(by first | rfl | (simp [IntKind.wrap_u32]; done)), HS.out⟩
              ·replace H := if_no c84 H
               have c84b0 : t32 = false := by simpa using c84
               have c84b1 : (!t32) = true := by rw [c84b0]; rfl
               clear c84
               replace HS : Aside0 (Sep FF w [b7 g00 g01 a01 a02 a03 a04, b6 g01 A00 l00.length n00 t28.2, r5 A00 l00.length n00 l00, b14 g02 A01 l01.length n01 A02 l02.length n02, r11 A01 l01.length n01 l01, r11 A02 l02.length n02 l02] w102) := ⟨HS.out.sub (.cons_cons _ (.cons_cons _ (.cons_cons _ (.cons _ (.cons_cons _ (.cons_cons _ (.cons_cons _ (.cons _ .slnil))))))))⟩
               go_wp2_with fail
               go_ret
               rw [← some_eq H]
               exact ⟨(by first | rfl | (simp [IntKind.wrap_u32]; done)), HS.out⟩
            ·replace H := if_no c82 H
             have c82b0 : (t27.1 == 0) = false := beq_eq_false_iff_ne.mpr c82
             have c82b1 : (t27.1 != 0) = true := bne_iff_ne.mpr c82
             clear c82
             replace HS : Aside0 (Sep FF w [b7 g00 g01 a01 a02 a03 a04, b6 g01 A00 l00.length n00 t28.2, r5 A00 l00.length n00 l00, b14 g02 A01 l01.length n01 A02 l02.length n02, r11 A01 l01.length n01 l01, r11 A02 l02.length n02 l02] w93) := ⟨HS.out.sub (.cons_cons _ (.cons_cons _ (.cons_cons _ (.cons_cons _ (.cons_cons _ (.cons_cons _ (.cons _ .slnil)))))))⟩
             go_wp2_with fail
             go_ret
             rw [← some_eq H]
             exact ⟨(by first | rfl | (simp [IntKind.wrap_u32]; done)), HS.out⟩
         ·replace H := if_no c74 H
          have c74b0 : (t28.1 == (l02.length : Int)) = false := beq_eq_false_iff_ne.mpr c74
          have c74b1 : (t28.1 != (l02.length : Int)) = true := bne_iff_ne.mpr c74
          clear c74
          replace HS : Aside0 (Sep FF w [b7 g00 g01 a01 a02 a03 a04, b6 g01 A00 l00.length n00 t28.2, r5 A00 l00.length n00 l00, b14 g02 A01 l01.length n01 A02 l02.length n02, r11 A01 l01.length n01 l01, r11 A02 l02.length n02 l02] w93) := ⟨HS.out.sub (.cons_cons _ (.cons_cons _ (.cons_cons _ (.cons_cons _ (.cons_cons _ (.cons_cons _ (.cons _ .slnil)))))))⟩
          go_wp2_with fail
          go_ret
          rw [← some_eq H]
          exact ⟨(by first | rfl | (simp [IntKind.wrap_u32]; done)), HS.out⟩
    ·replace H := if_no c55 H
     have c55b0 : decide (0 ≤ a07) = false := decide_eq_false c55
     clear c55
     try simp only [c55b0, Bool.not_true, Bool.not_false]
     refine pure_ (i := 7) (N := some 30) (v := undef) (a' := ?_) #[true, true, true, true, true, true, true, true, false, false, false, false, false, false, false] rfl rfl (by kernel_rfl) (fun _ _ _ h => h) (Or.inr ⟨by rfl, rfl⟩) ?_ ?_
     rotate_left
     ·simp only [Act.put, List.setIfInBounds_toArray, List.set_cons_zero, List.set_cons_succ, i64_w, i32_w]
      rfl
     try simp only [c55b0, Bool.not_true, Bool.not_false]
     refine pure_ (i := 8) (N := some 31) (v := undef) (a' := ?_) #[true, true, true, true, true, true, true, true, true, false, false, false, false, false, false] rfl rfl (by kernel_rfl) (fun _ _ _ h => h) (Or.inr ⟨by rfl, rfl⟩) ?_ ?_
     rotate_left
     ·simp only [Act.put, List.setIfInBounds_toArray, List.set_cons_zero, List.set_cons_succ, i64_w, i32_w]
      rfl
     try simp only [c55b0, Bool.not_true, Bool.not_false]
     refine pure_ (i := 9) (N := some 32) (v := undef) (a' := ?_) #[true, true, true, true, true, true, true, true, true, true, false, false, false, false, false] rfl rfl (by kernel_rfl) (fun _ _ _ h => h) (Or.inr ⟨by rfl, rfl⟩) ?_ ?_
     rotate_left
     ·simp only [Act.put, List.setIfInBounds_toArray, List.set_cons_zero, List.set_cons_succ, i64_w, i32_w]
      rfl
     try simp only [c55b0, Bool.not_true, Bool.not_false]
     refine pure_ (i := 10) (N := some 33) (v := undef) (a' := ?_) #[true, true, true, true, true, true, true, true, true, true, true, false, false, false, false] rfl rfl (by kernel_rfl) (fun _ _ _ h => h) (Or.inr ⟨by rfl, rfl⟩) ?_ ?_
     rotate_left
     ·simp only [Act.put, List.setIfInBounds_toArray, List.set_cons_zero, List.set_cons_succ, i64_w, i32_w]
      rfl
     try simp only [c55b0, Bool.not_true, Bool.not_false]
     refine pure_ (i := 11) (N := some 34) (v := undef) (a' := ?_) #[true, true, true, true, true, true, true, true, true, true, true, true, false, false, false] rfl rfl (by kernel_rfl) (fun _ _ _ h => h) (Or.inr ⟨by rfl, rfl⟩) ?_ ?_
     rotate_left
     ·simp only [Act.put, List.setIfInBounds_toArray, List.set_cons_zero, List.set_cons_succ, i64_w, i32_w]
      rfl
     try simp only [c55b0, Bool.not_true, Bool.not_false]
     refine pure_ (i := 12) (N := some 35) (v := undef) (a' := ?_) #[true, true, true, true, true, true, true, true, true, true, true, true, true, false, false] rfl rfl (by kernel_rfl) (fun _ _ _ h => h) (Or.inr ⟨by rfl, rfl⟩) ?_ ?_
     rotate_left
     ·simp only [Act.put, List.setIfInBounds_toArray, List.set_cons_zero, List.set_cons_succ, i64_w, i32_w]
      rfl
     refine pure_ (i := 13) (N := some 36) (v := ?_) (a' := ?_) #[true, true, true, true, true, true, true, true, true, true, true, true, true, true, false] rfl rfl (by kernel_rfl) (fun _ _ _ h => h) (Or.inl ⟨by rfl, ?_⟩) ?_ ?_
     rotate_left
     ·intro w'
      go_simp
      with_reducible rfl
     rotate_left
     ·simp only [Act.put, List.setIfInBounds_toArray, List.set_cons_zero, List.set_cons_succ, i64_w, i32_w]
      rfl
     refine pure_ (i := 14) (N := some 8) (v := ?_) (a' := ?_) #[true, true, true, true, true, true, true, true, true, true, true, true, true, true, true] rfl rfl (by kernel_rfl) (fun _ _ _ h => h) (Or.inl ⟨by rfl, ?_⟩) ?_ ?_
     rotate_left
     ·intro w'
      go_simp
      with_reducible rfl
     rotate_left
     ·simp only [Act.put, List.setIfInBounds_toArray, List.set_cons_zero, List.set_cons_succ, i64_w, i32_w]
      rfl
     refine done_ (by kernel_rfl) ?_
     have hc46 : w65.cell? ⟨g03, 1, none⟩ = some (.int .i64 a06) := blk_cellv (HS.out.at6) 1 rfl
     go_wp2_with fail
     clear hc46
     replace HS : Aside0 (Sep FF w [b14 g02 A01 l01.length n01 A02 l02.length n02, r11 A01 l01.length n01 l01, r11 A02 l02.length n02 l02, b7 g00 g01 a01 a02 a03 a04, b6 g01 A00 l00.length n00 a00, r5 A00 l00.length n00 l00, b16 g03 a05 a06 a07] w65) := ⟨(((HS.out).front 5 (by simp)).front 5 (by simp)).front 5 (by simp)⟩
     obtain ⟨t01, HA94, H⟩ := bind_some H
     rcases t01 with t02 | t03
     ·have H := sum_l H
      exact (none_no H).elim
     ·have H := sum_r H
      refine (quitrentref08_Chains_Of.calls l01 l02 a06 g02 A01 l01.length n01 A02 l02.length n02 (.inr t03) _ ⟨HS.out.begin⟩ HA94).mono ?_
      rintro e_ w104 ⟨rfl, hS⟩
      replace HS : Aside0 (Sep FF w [b14 g02 A01 l01.length n01 A02 l02.length n02, r11 A01 l01.length n01 l01, r11 A02 l02.length n02 l02, b7 g00 g01 a01 a02 a03 a04, b6 g01 A00 l00.length n00 a00, r5 A00 l00.length n00 l00, b16 g03 a05 a06 a07] w104) := ⟨HS.out.call hS⟩
      clear hS
      go_wp2_with fail
      replace HS : Aside0 (Sep FF w [b7 g00 g01 a01 a02 a03 a04, b6 g01 A00 l00.length n00 a00, r5 A00 l00.length n00 l00, b14 g02 A01 l01.length n01 A02 l02.length n02, r11 A01 l01.length n01 l01, r11 A02 l02.length n02 l02, b16 g03 a05 a06 a07] w104) := ⟨(((HS.out).front 5 (by simp)).front 5 (by simp)).front 5 (by simp)⟩
      obtain ⟨t04, HA95, H⟩ := bind_some H
      refine (ground_Ground_Meter.calls l00 a00 a01 a02 a03 a04 g00 g01 A00 l00.length n00 t04 _ ⟨HS.out.begin⟩ HA95).mono ?_
      rintro e_ w105 ⟨rfl, hS⟩
      replace HS : Aside0 (Sep FF w [b7 g00 g01 a01 a02 a03 a04, b6 g01 A00 l00.length n00 a00, r5 A00 l00.length n00 l00, b14 g02 A01 l01.length n01 A02 l02.length n02, r11 A01 l01.length n01 l01, r11 A02 l02.length n02 l02, b16 g03 a05 a06 a07] w105) := ⟨HS.out.call hS⟩
      clear hS
      by_cases c85 : a05 = 0
      ·replace H := if_yes c85 H
       have c85b0 : (a05 == 0) = true := beq_iff_eq.mpr c85
       have c85b1 : (a05 != 0) = false := bne_eq_false_iff_eq.mpr c85
       clear c85
       have hc47 : w105.cell? ⟨g03, 0, none⟩ = some (.int .u8 a05) := blk_cellv (HS.out.at6) 0 rfl
       have hc48 : w105.cell? ⟨g03, 1, none⟩ = some (.int .i64 a06) := blk_cellv (HS.out.at6) 1 rfl
       have hc49 : w105.cell? ⟨g03, 2, none⟩ = some (.int .i64 a07) := blk_cellv (HS.out.at6) 2 rfl
       go_wp2_with fail
       clear hc47 hc48 hc49
       obtain ⟨t10, HA96, H⟩ := bind_some H
       refine (chain_Push.calls l00 a00 a01 a02 a03 a04 a06 a07 g00 g01 A00 l00.length n00 t10 _ ⟨HS.out.begin⟩ HA96).mono ?_
       rintro e_ w106 ⟨rfl, hS⟩
       replace HS : Aside0 (Sep FF w [b7 g00 g01 a01 a02 a03 a04, b6 g01 A00 l00.length n00 t10.2.1, r5 A00 l00.length n00 t10.2.2, b14 g02 A01 l01.length n01 A02 l02.length n02, r11 A01 l01.length n01 l01, r11 A02 l02.length n02 l02, b16 g03 a05 a06 a07] w106) := ⟨HS.out.call hS⟩
       clear hS
       by_cases c86 : t10.1 = true
       ·replace H := if_yes c86 H
        have c86b0 : t10.1 = true := c86
        have c86b1 : (!t10.1) = false := by rw [c86b0]; rfl
        clear c86
        replace HS : Aside0 (Sep FF w [b7 g00 g01 a01 a02 a03 a04, b6 g01 A00 l00.length n00 t10.2.1, r5 A00 l00.length n00 t10.2.2, b14 g02 A01 l01.length n01 A02 l02.length n02, r11 A01 l01.length n01 l01, r11 A02 l02.length n02 l02] w106) := ⟨HS.out.sub (.cons_cons _ (.cons_cons _ (.cons_cons _ (.cons_cons _ (.cons_cons _ (.cons_cons _ (.cons _ .slnil)))))))⟩
        go_wp2_with fail
        go_ret
        rw [← some_eq H]
        exact ⟨(by first | rfl | (simp [IntKind.wrap_u32]; done)), HS.out⟩
       ·replace H := if_no c86 H
        have c86b0 : t10.1 = false := by simpa using c86
        have c86b1 : (!t10.1) = true := by rw [c86b0]; rfl
        clear c86
        go_wp2_with fail
        obtain ⟨t11, HA97, H⟩ := bind_some H
        refine (ground_Ground_Meter.calls t10.2.2 t10.2.1 a01 a02 a03 a04 g00 g01 A00 l00.length n00 t11 _ ⟨HS.out.begin⟩ HA97).mono ?_
        rintro e_ w107 ⟨rfl, hS⟩
        replace HS : Aside0 (Sep FF w [b7 g00 g01 a01 a02 a03 a04, b6 g01 A00 l00.length n00 t10.2.1, r5 A00 l00.length n00 t10.2.2, b14 g02 A01 l01.length n01 A02 l02.length n02, r11 A01 l01.length n01 l01, r11 A02 l02.length n02 l02, b16 g03 a05 a06 a07] w107) := ⟨HS.out.call hS⟩
        clear hS
        replace HS : Aside0 (Sep FF w [b7 g00 g01 a01 a02 a03 a04, b6 g01 A00 l00.length n00 t10.2.1, r5 A00 l00.length n00 t10.2.2, b14 g02 A01 l01.length n01 A02 l02.length n02, r11 A01 l01.length n01 l01, r11 A02 l02.length n02 l02] w107) := ⟨HS.out.sub (.cons_cons _ (.cons_cons _ (.cons_cons _ (.cons_cons _ (.cons_cons _ (.cons_cons _ (.cons _ .slnil)))))))⟩
        go_wp2_with fail
        go_ret
        rw [← some_eq H]
        exact ⟨(by first | rfl | (simp [IntKind.wrap_u32]; done)), HS.out⟩
      ·replace H := if_no c85 H
       have c85b0 : (a05 == 0) = false := beq_eq_false_iff_ne.mpr c85
       have c85b1 : (a05 != 0) = true := bne_iff_ne.mpr c85
       clear c85
       by_cases c87 : a05 = 1
       ·replace H := if_yes c87 H
        have c87b0 : (a05 == 1) = true := beq_iff_eq.mpr c87
        have c87b1 : (a05 != 1) = false := bne_eq_false_iff_eq.mpr c87
        clear c87
        have hc47 : w105.cell? ⟨g03, 0, none⟩ = some (.int .u8 a05) := blk_cellv (HS.out.at6) 0 rfl
        have hc50 : w105.cell? ⟨g03, 1, none⟩ = some (.int .i64 a06) := blk_cellv (HS.out.at6) 1 rfl
        have hc51 : w105.cell? ⟨g03, 2, none⟩ = some (.int .i64 a07) := blk_cellv (HS.out.at6) 2 rfl
        go_wp2_with fail
        clear hc47 hc50 hc51
        obtain ⟨t17, HA98, H⟩ := bind_some H
        refine (chain_Add.calls l00 a00 a01 a02 a03 a04 a06 a07 g00 g01 A00 l00.length n00 t17 _ ⟨HS.out.begin⟩ HA98).mono ?_
        rintro e_ w108 ⟨rfl, hS⟩
        replace HS : Aside0 (Sep FF w [b7 g00 g01 a01 a02 a03 a04, b6 g01 A00 l00.length n00 t17.2.1, r5 A00 l00.length n00 t17.2.2, b14 g02 A01 l01.length n01 A02 l02.length n02, r11 A01 l01.length n01 l01, r11 A02 l02.length n02 l02, b16 g03 a05 a06 a07] w108) := ⟨HS.out.call hS⟩
        clear hS
        by_cases c88 : t17.1 = true
        ·replace H := if_yes c88 H
         have c88b0 : t17.1 = true := c88
         have c88b1 : (!t17.1) = false := by rw [c88b0]; rfl
         clear c88
         replace HS : Aside0 (Sep FF w [b7 g00 g01 a01 a02 a03 a04, b6 g01 A00 l00.length n00 t17.2.1, r5 A00 l00.length n00 t17.2.2, b14 g02 A01 l01.length n01 A02 l02.length n02, r11 A01 l01.length n01 l01, r11 A02 l02.length n02 l02] w108) := ⟨HS.out.sub (.cons_cons _ (.cons_cons _ (.cons_cons _ (.cons_cons _ (.cons_cons _ (.cons_cons _ (.cons _ .slnil)))))))⟩
         go_wp2_with fail
         go_ret
         rw [← some_eq H]
         exact ⟨(by first | rfl | (simp [IntKind.wrap_u32]; done)), HS.out⟩
        ·replace H := if_no c88 H
         have c88b0 : t17.1 = false := by simpa using c88
         have c88b1 : (!t17.1) = true := by rw [c88b0]; rfl
         clear c88
         go_wp2_with fail
         obtain ⟨t18, HA99, H⟩ := bind_some H
         refine (ground_Ground_Meter.calls t17.2.2 t17.2.1 a01 a02 a03 a04 g00 g01 A00 l00.length n00 t18 _ ⟨HS.out.begin⟩ HA99).mono ?_
         rintro e_ w109 ⟨rfl, hS⟩
         replace HS : Aside0 (Sep FF w [b7 g00 g01 a01 a02 a03 a04, b6 g01 A00 l00.length n00 t17.2.1, r5 A00 l00.length n00 t17.2.2, b14 g02 A01 l01.length n01 A02 l02.length n02, r11 A01 l01.length n01 l01, r11 A02 l02.length n02 l02, b16 g03 a05 a06 a07] w109) := ⟨HS.out.call hS⟩
         clear hS
         replace HS : Aside0 (Sep FF w [b7 g00 g01 a01 a02 a03 a04, b6 g01 A00 l00.length n00 t17.2.1, r5 A00 l00.length n00 t17.2.2, b14 g02 A01 l01.length n01 A02 l02.length n02, r11 A01 l01.length n01 l01, r11 A02 l02.length n02 l02] w109) := ⟨HS.out.sub (.cons_cons _ (.cons_cons _ (.cons_cons _ (.cons_cons _ (.cons_cons _ (.cons_cons _ (.cons _ .slnil)))))))⟩
         go_wp2_with fail
         go_ret
         rw [← some_eq H]
         exact ⟨(by first | rfl | (simp [IntKind.wrap_u32]; done)), HS.out⟩
       ·replace H := if_no c87 H
        have c87b0 : (a05 == 1) = false := beq_eq_false_iff_ne.mpr c87
        have c87b1 : (a05 != 1) = true := bne_iff_ne.mpr c87
        clear c87
        by_cases c89 : a05 = 2
        ·replace H := if_yes c89 H
         have c89b0 : (a05 == 2) = true := beq_iff_eq.mpr c89
         have c89b1 : (a05 != 2) = false := bne_eq_false_iff_eq.mpr c89
         clear c89
         have hc47 : w105.cell? ⟨g03, 0, none⟩ = some (.int .u8 a05) := blk_cellv (HS.out.at6) 0 rfl
         have hc52 : w105.cell? ⟨g03, 1, none⟩ = some (.int .i64 a06) := blk_cellv (HS.out.at6) 1 rfl
         go_wp2_with fail
         clear hc47 hc52
         obtain ⟨t19, HA100, H⟩ := bind_some H
         refine (chain_Take.calls l00 a00 a01 a02 a03 a04 a06 g00 g01 A00 l00.length n00 t19 _ ⟨HS.out.begin⟩ HA100).mono ?_
         rintro e_ w110 ⟨rfl, hS⟩
         replace HS : Aside0 (Sep FF w [b7 g00 g01 a01 a02 a03 a04, b6 g01 A00 l00.length n00 t19.2.2.1, r5 A00 l00.length n00 t19.2.2.2, b14 g02 A01 l01.length n01 A02 l02.length n02, r11 A01 l01.length n01 l01, r11 A02 l02.length n02 l02, b16 g03 a05 a06 a07] w110) := ⟨HS.out.call hS⟩
         clear hS
         by_cases c90 : (l02.length : Int) = 0
         ·replace H := if_yes c90 H
          have c90b0 : ((l02.length : Int) == 0) = true := beq_iff_eq.mpr c90
          have c90b1 : ((l02.length : Int) != 0) = false := bne_eq_false_iff_eq.mpr c90
          clear c90
          by_cases c91 : t19.1 = 0
          ·replace H := if_yes c91 H
           have c91b0 : (t19.1 == 0) = true := beq_iff_eq.mpr c91
           have c91b1 : (t19.1 != 0) = false := bne_eq_false_iff_eq.mpr c91
           clear c91
           by_cases c92 : t19.2.1 = true
           ·replace H := if_yes c92 H
            have c92b0 : t19.2.1 = true := c92
            have c92b1 : (!t19.2.1) = false := by rw [c92b0]; rfl
            try rw [c92b1]
            clear c92
            replace HS : Aside0 (Sep FF w [b7 g00 g01 a01 a02 a03 a04, b6 g01 A00 l00.length n00 t19.2.2.1, r5 A00 l00.length n00 t19.2.2.2, b14 g02 A01 l01.length n01 A02 l02.length n02, r11 A01 l01.length n01 l01, r11 A02 l02.length n02 l02] w110) := ⟨HS.out.sub (.cons_cons _ (.cons_cons _ (.cons_cons _ (.cons_cons _ (.cons_cons _ (.cons_cons _ (.cons _ .slnil)))))))⟩
            go_wp2_with fail
            go_ret
            rw [← some_eq H]
            exact ⟨(by first | rfl | (simp [IntKind.wrap_u32]; done)), HS.out⟩
           ·replace H := if_no c92 H
            have c92b0 : t19.2.1 = false := by simpa using c92
            have c92b1 : (!t19.2.1) = true := by rw [c92b0]; rfl
            try rw [c92b1]
            clear c92
            go_wp2_with fail
            obtain ⟨t20, HA101, H⟩ := bind_some H
            refine (ground_Ground_Meter.calls t19.2.2.2 t19.2.2.1 a01 a02 a03 a04 g00 g01 A00 l00.length n00 t20 _ ⟨HS.out.begin⟩ HA101).mono ?_
            rintro e_ w111 ⟨rfl, hS⟩
            replace HS : Aside0 (Sep FF w [b7 g00 g01 a01 a02 a03 a04, b6 g01 A00 l00.length n00 t19.2.2.1, r5 A00 l00.length n00 t19.2.2.2, b14 g02 A01 l01.length n01 A02 l02.length n02, r11 A01 l01.length n01 l01, r11 A02 l02.length n02 l02, b16 g03 a05 a06 a07] w111) := ⟨HS.out.call hS⟩
            clear hS
            replace HS : Aside0 (Sep FF w [b7 g00 g01 a01 a02 a03 a04, b6 g01 A00 l00.length n00 t19.2.2.1, r5 A00 l00.length n00 t19.2.2.2, b14 g02 A01 l01.length n01 A02 l02.length n02, r11 A01 l01.length n01 l01, r11 A02 l02.length n02 l02] w111) := ⟨HS.out.sub (.cons_cons _ (.cons_cons _ (.cons_cons _ (.cons_cons _ (.cons_cons _ (.cons_cons _ (.cons _ .slnil)))))))⟩
            go_wp2_with fail
            go_ret
            rw [← some_eq H]
            exact ⟨(by first | rfl | (simp [IntKind.wrap_u32]; done)), HS.out⟩
          ·replace H := if_no c91 H
           have c91b0 : (t19.1 == 0) = false := beq_eq_false_iff_ne.mpr c91
           have c91b1 : (t19.1 != 0) = true := bne_iff_ne.mpr c91
           clear c91
           replace HS : Aside0 (Sep FF w [b7 g00 g01 a01 a02 a03 a04, b6 g01 A00 l00.length n00 t19.2.2.1, r5 A00 l00.length n00 t19.2.2.2, b14 g02 A01 l01.length n01 A02 l02.length n02, r11 A01 l01.length n01 l01, r11 A02 l02.length n02 l02] w110) := ⟨HS.out.sub (.cons_cons _ (.cons_cons _ (.cons_cons _ (.cons_cons _ (.cons_cons _ (.cons_cons _ (.cons _ .slnil)))))))⟩
           go_wp2_with fail
           go_ret
           rw [← some_eq H]
           exact ⟨(by first | rfl | (simp [IntKind.wrap_u32]; done)), HS.out⟩
         ·replace H := if_no c90 H
          have c90b0 : ((l02.length : Int) == 0) = false := beq_eq_false_iff_ne.mpr c90
          have c90b1 : ((l02.length : Int) != 0) = true := bne_iff_ne.mpr c90
          clear c90
          go_wp2_with fail
          refine start_ (n := 6) (S := (fun w' => w'.cell? ⟨g03, 1, none⟩ = some (.int .i64 a06))) (ds := []) #[false, false, false, false, false, false] (by kernel_rfl) rfl rfl (blk_cellv ((HS.out.drew).at6) 1 rfl) (fun hHeld => ?_)
          have HS_ := Aside0.mk HS.out.drew
          clear HS
          generalize World.drew _ = w112 at HS_ hHeld ⊢
          have HS := HS_
          clear HS_
          refine pure_ (i := 0) (N := some 137) (v := ?_) (a' := ?_) #[true, false, false, false, false, false] rfl rfl (by kernel_rfl) (fun _ _ _ h => h) (Or.inl ⟨by rfl, ?_⟩) ?_ ?_
          rotate_left
          ·intro w'
           go_simp
           with_reducible rfl
          rotate_left
          ·simp only [Act.put, List.setIfInBounds_toArray, List.set_cons_zero, List.set_cons_succ, i64_w, i32_w]
           rfl
          refine pure_ (i := 1) (N := some 138) (v := ?_) (a' := ?_) #[true, true, false, false, false, false] rfl rfl (by kernel_rfl) (fun _ _ _ h => h) (Or.inl ⟨by rfl, ?_⟩) ?_ ?_
          rotate_left
          ·intro w'
           go_simp
           with_reducible rfl
          rotate_left
          ·simp only [Act.put, List.setIfInBounds_toArray, List.set_cons_zero, List.set_cons_succ, i64_w, i32_w]
           rfl
          refine pure_ (i := 3) (N := some 140) (v := ?_) (a' := ?_) #[true, true, false, true, false, false] rfl rfl (by kernel_rfl) (fun _ _ _ h => h) (Or.inl ⟨by rfl, ?_⟩) ?_ ?_
          rotate_left
          ·intro w'
           go_simp
           with_reducible rfl
          rotate_left
          ·simp only [Act.put, List.setIfInBounds_toArray, List.set_cons_zero, List.set_cons_succ, i64_w, i32_w]
           rfl
          refine take_ (i := 2) (N := some 139) (v := ?_) (a' := ?_) #[true, true, true, true, false, false] rfl rfl (by kernel_rfl) (fun _ _ _ h => h) (Or.inl ⟨by rfl, ?_⟩) hHeld ?_ ?_
          rotate_left
          ·rintro w' hS'
           have s0 := hS'
           go_simp
           with_reducible rfl
          rotate_left
          ·simp only [Act.put, List.setIfInBounds_toArray, List.set_cons_zero, List.set_cons_succ, i64_w, i32_w]
           rfl
          refine one_ (i := 4) (N := some 141) #[true, true, true, true, true, false] rfl rfl (by kernel_rfl) (by decide) (fun K hK => ?_)
          obtain ⟨t21, HA102, H⟩ := bind_some H
          refine goes_ Try.func97 (by kernel_rfl) rfl #[.slice A02 l02.length n02] (by rfl) rfl rfl (by (try simp only [List.map_toArray, List.map_cons, List.map_nil]); first | done | rfl) ?_
          refine (quitrentref08_Rest.calls _ l02 A02 n02 t21 _ ⟨Rd.ownI (l := []) HS.out 5 rfl⟩ ⟨Sep.start _⟩ HA102).mono ?_
          rintro e_ w113 ⟨A18, m18, n18, rfl, hS⟩
          replace HS : Aside0 (Sep FF w [r11 A18 m18 n18 t21, b7 g00 g01 a01 a02 a03 a04, b6 g01 A00 l00.length n00 t19.2.2.1, r5 A00 l00.length n00 t19.2.2.2, b14 g02 A01 l01.length n01 A02 l02.length n02, r11 A01 l01.length n01 l01, r11 A02 l02.length n02 l02, b16 g03 a05 a06 a07] w113) := ⟨HS.out.call hS⟩
          clear hS
          obtain rfl := (row_len (HS.out.at0)).symm
          refine ⟨_, rfl, ?_⟩
          refine hK.out _ _ (blk_cellv (HS.out.at7) 1 rfl) (fun hHeld => ?_)
          clear hK K
          refine norm_ (a' := ?_) ?_ ?_
          rotate_left
          ·show Act.put _ (some 141) _ = _
           simp only [Act.put, List.setIfInBounds_toArray, List.set_cons_zero, List.set_cons_succ, i64_w, i32_w]
           rfl
          refine one_ (i := 5) (N := some 142) #[true, true, true, true, true, true] rfl rfl (by kernel_rfl) (by decide) (fun K hK => ?_)
          replace HS : Aside0 (Sep FF w [b14 g02 A01 l01.length n01 A02 l02.length n02, r11 A01 l01.length n01 l01, r11 A02 l02.length n02 l02, r11 A18 t21.length n18 t21, b7 g00 g01 a01 a02 a03 a04, b6 g01 A00 l00.length n00 t19.2.2.1, r5 A00 l00.length n00 t19.2.2.2, b16 g03 a05 a06 a07] w113) := ⟨(((HS.out).front 6 (by simp)).front 6 (by simp)).front 6 (by simp)⟩
          obtain ⟨t22, HA103, H⟩ := bind_some H
          rcases t22 with t23 | t24
          ·have H := sum_l H
           exact (none_no H).elim
          ·have H := sum_r H
           refine goes_ Try.func94 (by kernel_rfl) rfl #[.pointer (some ⟨g02, 0, none⟩), .int .i64 a06, .slice A18 t21.length n18] (by rfl) rfl rfl (by (try simp only [List.map_toArray, List.map_cons, List.map_nil]); first | done | rfl) ?_
           refine (quitrentref08_Chains_Set_1.calls l01 l02 a06 t21 g02 A01 l01.length n01 A02 l02.length n02 A18 t21.length n18 (.inr t24) _ ⟨HS.out.begin⟩ HA103).mono ?_
           rintro e_ w114 ⟨rfl, hS⟩
           replace HS : Aside0 (Sep FF w [b14 g02 A01 l01.length n01 A18 t21.length n18, r11 A01 l01.length n01 l01, r11 A02 l02.length n02 l02, r11 A18 t21.length n18 t21, b7 g00 g01 a01 a02 a03 a04, b6 g01 A00 l00.length n00 t19.2.2.1, r5 A00 l00.length n00 t19.2.2.2, b16 g03 a05 a06 a07] w114) := ⟨HS.out.call hS⟩
           clear hS
           refine ⟨_, rfl, ?_⟩
           refine hK.out _ _ (blk_cellv (HS.out.at7) 1 rfl) (fun hHeld => ?_)
           clear hK K
           refine norm_ (a' := ?_) ?_ ?_
           rotate_left
           ·show Act.put _ (some 142) _ = _
            simp only [Act.put, List.setIfInBounds_toArray, List.set_cons_zero, List.set_cons_succ, i64_w, i32_w]
            rfl
           refine done_ (by kernel_rfl) ?_
           by_cases c93 : 0 < (l02.length : Int)
           ·replace H := if_yes c93 H
            have c93b0 : decide (0 < (l02.length : Int)) = true := decide_eq_true c93
            have c93b1 : decide (0 < l02.length) = true := decide_eq_true (by omega)
            have c93p : (0 < (l02.length : Int)) = True := eq_true c93
            have c93n : (0 < l02.length) = True := eq_true (by omega)
            clear c93
            by_cases c94 : t19.1 = (rd l02 0)
            ·replace H := if_yes c94 H
             have c94b0 : (t19.1 == (rd l02 0)) = true := beq_iff_eq.mpr c94
             have c94b1 : (t19.1 != (rd l02 0)) = false := bne_eq_false_iff_eq.mpr c94
             clear c94
             by_cases c95 : t19.2.1 = true
             ·replace H := if_yes c95 H
              have c95b0 : t19.2.1 = true := c95
              have c95b1 : (!t19.2.1) = false := by rw [c95b0]; rfl
              clear c95
              replace HS : Aside0 (Sep FF w [b14 g02 A01 l01.length n01 A18 t21.length n18, r11 A01 l01.length n01 l01, r11 A02 l02.length n02 l02, r11 A18 t21.length n18 t21, b7 g00 g01 a01 a02 a03 a04, b6 g01 A00 l00.length n00 t19.2.2.1, r5 A00 l00.length n00 t19.2.2.2] w114) := ⟨HS.out.sub (.cons_cons _ (.cons_cons _ (.cons_cons _ (.cons_cons _ (.cons_cons _ (.cons_cons _ (.cons_cons _ (.cons _ .slnil))))))))⟩
              obtain ⟨g10, ea⟩ := row_at (HS.out.at2) (by have := True.intro; have := (of_decide_eq_true c93b0); omega); cases ea
              have hx12 := C_at_int (row_Ci (HS.out.at2)) 0 (by decide) (of_decide_eq_true c93b0)
              have hx13 : w114.cell? ⟨g10, 0, none⟩ = some (.int .i64 (rd l02 0)) := (row_get 0 (HS.out.at2) 0 (by decide) (of_decide_eq_true c93b0)).1
              go_wp2_with fail
              clear hx12 hx13
              replace HS : Aside0 (Sep FF w [b7 g00 g01 a01 a02 a03 a04, b6 g01 A00 l00.length n00 t19.2.2.1, r5 A00 l00.length n00 t19.2.2.2, b14 g02 A01 l01.length n01 A18 t21.length n18, r11 A01 l01.length n01 l01, r11 (some ⟨g10, 0, none⟩) l02.length n02 l02, r11 A18 t21.length n18 t21] w114) := ⟨(((HS.out).front 6 (by simp)).front 6 (by simp)).front 6 (by simp)⟩
              obtain ⟨t25, HA104, H⟩ := bind_some H
              refine (ground_Ground_SeeWord.calls t19.2.2.2 t19.2.2.1 a01 a02 a03 a04 t19.1 5 g00 g01 A00 l00.length n00 t25 _ ⟨HS.out.begin⟩ HA104).mono ?_
              rintro e_ w115 ⟨rfl, hS⟩
              replace HS : Aside0 (Sep FF w [b7 g00 g01 a01 a02 a03 a04, b6 g01 A00 l00.length n00 t19.2.2.1, r5 A00 l00.length n00 t19.2.2.2, b14 g02 A01 l01.length n01 A18 t21.length n18, r11 A01 l01.length n01 l01, r11 (some ⟨g10, 0, none⟩) l02.length n02 l02, r11 A18 t21.length n18 t21] w115) := ⟨HS.out.call hS⟩
              clear hS
              by_cases c96 : t25 = 0
              ·replace H := if_yes c96 H
               have c96b0 : (t25 == 0) = true := beq_iff_eq.mpr c96
               have c96b1 : (t25 != 0) = false := bne_eq_false_iff_eq.mpr c96
               clear c96
               go_wp2_with fail
               obtain ⟨t26, HA105, H⟩ := bind_some H
               refine (ground_Ground_Meter.calls t19.2.2.2 t19.2.2.1 a01 a02 a03 a04 g00 g01 A00 l00.length n00 t26 _ ⟨HS.out.begin⟩ HA105).mono ?_
               rintro e_ w116 ⟨rfl, hS⟩
               replace HS : Aside0 (Sep FF w [b7 g00 g01 a01 a02 a03 a04, b6 g01 A00 l00.length n00 t19.2.2.1, r5 A00 l00.length n00 t19.2.2.2, b14 g02 A01 l01.length n01 A18 t21.length n18, r11 A01 l01.length n01 l01, r11 (some ⟨g10, 0, none⟩) l02.length n02 l02, r11 A18 t21.length n18 t21] w116) := ⟨HS.out.call hS⟩
               clear hS
               go_wp2_with fail
               go_ret
               rw [← some_eq H]
               exact ⟨(by first | rfl | (simp [IntKind.wrap_u32]; done)), A18, t21.length, n18, HS.out⟩
              ·replace H := if_no c96 H
               have c96b0 : (t25 == 0) = false := beq_eq_false_iff_ne.mpr c96
               have c96b1 : (t25 != 0) = true := bne_iff_ne.mpr c96
               clear c96
               go_wp2_with fail
               go_ret
               rw [← some_eq H]
               exact ⟨(by first | rfl | (simp [IntKind.wrap_u32]; done)), A18, t21.length, n18, HS.out⟩
             ·replace H := if_no c95 H
              have c95b0 : t19.2.1 = false := by simpa using c95
              have c95b1 : (!t19.2.1) = true := by rw [c95b0]; rfl
              clear c95
              replace HS : Aside0 (Sep FF w [b14 g02 A01 l01.length n01 A18 t21.length n18, r11 A01 l01.length n01 l01, r11 A02 l02.length n02 l02, r11 A18 t21.length n18 t21, b7 g00 g01 a01 a02 a03 a04, b6 g01 A00 l00.length n00 t19.2.2.1, r5 A00 l00.length n00 t19.2.2.2] w114) := ⟨HS.out.sub (.cons_cons _ (.cons_cons _ (.cons_cons _ (.cons_cons _ (.cons_cons _ (.cons_cons _ (.cons_cons _ (.cons _ .slnil))))))))⟩
              obtain ⟨g10, ea⟩ := row_at (HS.out.at2) (by have := True.intro; have := (of_decide_eq_true c93b0); omega); cases ea
              have hx12 := C_at_int (row_Ci (HS.out.at2)) 0 (by decide) (of_decide_eq_true c93b0)
              have hx13 : w114.cell? ⟨g10, 0, none⟩ = some (.int .i64 (rd l02 0)) := (row_get 0 (HS.out.at2) 0 (by decide) (of_decide_eq_true c93b0)).1
              go_wp2_with fail
              clear hx12 hx13
              go_ret
              rw [← some_eq H]
              exact ⟨(by first | rfl | (simp [IntKind.wrap_u32]; done)), A18, t21.length, n18, ((((((((HS.out).front 3 (by simp)).front 3 (by simp)).front 3 (by simp)).front 3 (by simp)).front 6 (by simp)).front 6 (by simp)).front 6 (by simp)).keep (l := [b7 g00 g01 a01 a02 a03 a04, b6 g01 A00 l00.length n00 t19.2.2.1, r5 A00 l00.length n00 t19.2.2.2, b14 g02 A01 l01.length n01 A18 t21.length n18, r11 A01 l01.length n01 l01, r11 (some ⟨g10, 0, none⟩) l02.length n02 l02, r11 A18 t21.length n18 t21]) (rest := [])⟩
            ·replace H := if_no c94 H
             have c94b0 : (t19.1 == (rd l02 0)) = false := beq_eq_false_iff_ne.mpr c94
             have c94b1 : (t19.1 != (rd l02 0)) = true := bne_iff_ne.mpr c94
             clear c94
             replace HS : Aside0 (Sep FF w [b14 g02 A01 l01.length n01 A18 t21.length n18, r11 A01 l01.length n01 l01, r11 A02 l02.length n02 l02, r11 A18 t21.length n18 t21, b7 g00 g01 a01 a02 a03 a04, b6 g01 A00 l00.length n00 t19.2.2.1, r5 A00 l00.length n00 t19.2.2.2] w114) := ⟨HS.out.sub (.cons_cons _ (.cons_cons _ (.cons_cons _ (.cons_cons _ (.cons_cons _ (.cons_cons _ (.cons_cons _ (.cons _ .slnil))))))))⟩
             obtain ⟨g10, ea⟩ := row_at (HS.out.at2) (by have := True.intro; have := (of_decide_eq_true c93b0); omega); cases ea
             have hx12 := C_at_int (row_Ci (HS.out.at2)) 0 (by decide) (of_decide_eq_true c93b0)
             have hx13 : w114.cell? ⟨g10, 0, none⟩ = some (.int .i64 (rd l02 0)) := (row_get 0 (HS.out.at2) 0 (by decide) (of_decide_eq_true c93b0)).1
             go_wp2_with fail
             clear hx12 hx13
             go_ret
             rw [← some_eq H]
             exact ⟨(by first | rfl | (simp [IntKind.wrap_u32]; done)), A18, t21.length, n18, ((((((((HS.out).front 3 (by simp)).front 3 (by simp)).front 3 (by simp)).front 3 (by simp)).front 6 (by simp)).front 6 (by simp)).front 6 (by simp)).keep (l := [b7 g00 g01 a01 a02 a03 a04, b6 g01 A00 l00.length n00 t19.2.2.1, r5 A00 l00.length n00 t19.2.2.2, b14 g02 A01 l01.length n01 A18 t21.length n18, r11 A01 l01.length n01 l01, r11 (some ⟨g10, 0, none⟩) l02.length n02 l02, r11 A18 t21.length n18 t21]) (rest := [])⟩
           ·replace H := if_no c93 H
            have c93b0 : decide (0 < (l02.length : Int)) = false := decide_eq_false c93
            have c93b1 : decide (0 < l02.length) = false := decide_eq_false (by omega)
            clear c93
            exact (none_no H).elim
        ·replace H := if_no c89 H
         have c89b0 : (a05 == 2) = false := beq_eq_false_iff_ne.mpr c89
         have c89b1 : (a05 != 2) = true := bne_iff_ne.mpr c89
         clear c89
         have hc47 : w105.cell? ⟨g03, 0, none⟩ = some (.int .u8 a05) := blk_cellv (HS.out.at6) 0 rfl
         have hc53 : w105.cell? ⟨g03, 1, none⟩ = some (.int .i64 a06) := blk_cellv (HS.out.at6) 1 rfl
         go_wp2_with fail
         clear hc47 hc53
         obtain ⟨t27, HA106, H⟩ := bind_some H
         refine (chain_First.calls l00 a00 a01 a02 a03 a04 a06 g00 g01 A00 l00.length n00 t27 _ ⟨HS.out.begin⟩ HA106).mono ?_
         rintro e_ w117 ⟨rfl, hS⟩
         replace HS : Aside0 (Sep FF w [b7 g00 g01 a01 a02 a03 a04, b6 g01 A00 l00.length n00 t27.2.2, r5 A00 l00.length n00 l00, b14 g02 A01 l01.length n01 A02 l02.length n02, r11 A01 l01.length n01 l01, r11 A02 l02.length n02 l02, b16 g03 a05 a06 a07] w117) := ⟨HS.out.call hS⟩
         clear hS
         have hc54 : w117.cell? ⟨g03, 1, none⟩ = some (.int .i64 a06) := blk_cellv (HS.out.at6) 1 rfl
         go_wp2_with fail
         clear hc54
         obtain ⟨t28, HA107, H⟩ := bind_some H
         refine (chain_Len.calls l00 t27.2.2 a01 a02 a03 a04 a06 g00 g01 A00 l00.length n00 t28 _ ⟨HS.out.begin⟩ HA107).mono ?_
         rintro e_ w118 ⟨rfl, hS⟩
         replace HS : Aside0 (Sep FF w [b7 g00 g01 a01 a02 a03 a04, b6 g01 A00 l00.length n00 t28.2, r5 A00 l00.length n00 l00, b14 g02 A01 l01.length n01 A02 l02.length n02, r11 A01 l01.length n01 l01, r11 A02 l02.length n02 l02, b16 g03 a05 a06 a07] w118) := ⟨HS.out.call hS⟩
         clear hS
         by_cases c97 : t28.1 = (l02.length : Int)
         ·replace H := if_yes c97 H
          have c97b0 : (t28.1 == (l02.length : Int)) = true := beq_iff_eq.mpr c97
          have c97b1 : (t28.1 != (l02.length : Int)) = false := bne_eq_false_iff_eq.mpr c97
          clear c97
          by_cases c98 : t27.2.1 = true
          ·replace H := if_yes c98 H
           have c98b0 : t27.2.1 = true := c98
           have c98b1 : (!t27.2.1) = false := by rw [c98b0]; rfl
           clear c98
           by_cases c99 : (l02.length : Int) > 0
           ·replace H := if_yes c99 H
            have c99b0 : decide (0 < (l02.length : Int)) = true := decide_eq_true c99
            have c99b1 : decide (0 < l02.length) = true := decide_eq_true (by omega)
            clear c99
            by_cases c100 : 0 < (l02.length : Int)
            ·replace H := if_yes c100 H
             have c100b0 : decide (0 < (l02.length : Int)) = true := decide_eq_true c100
             have c100b1 : decide (0 < l02.length) = true := decide_eq_true (by omega)
             have c100p : (0 < (l02.length : Int)) = True := eq_true c100
             have c100n : (0 < l02.length) = True := eq_true (by omega)
             clear c100
             by_cases c101 : t27.1 = (rd l02 0)
             ·replace H := if_yes c101 H
              have c101b0 : (t27.1 == (rd l02 0)) = true := beq_iff_eq.mpr c101
              have c101b1 : (t27.1 != (rd l02 0)) = false := bne_eq_false_iff_eq.mpr c101
              clear c101
              obtain ⟨g11, ea⟩ := row_at (HS.out.at5) (by have := True.intro; have := (of_decide_eq_true c100b0); omega); cases ea
              have hx14 := C_at_int (row_Ci (HS.out.at5)) 0 (by decide) (of_decide_eq_true c100b0)
              have hx15 : w118.cell? ⟨g11, 0, none⟩ = some (.int .i64 (rd l02 0)) := (row_get 0 (HS.out.at5) 0 (by decide) (of_decide_eq_true c100b0)).1
              go_wp2_with fail
              clear hx14 hx15
              obtain ⟨t29, HA108, H⟩ := bind_some H
              refine (ground_Ground_Meter.calls l00 t28.2 a01 a02 a03 a04 g00 g01 A00 l00.length n00 t29 _ ⟨HS.out.begin⟩ HA108).mono ?_
              rintro e_ w119 ⟨rfl, hS⟩
              replace HS : Aside0 (Sep FF w [b7 g00 g01 a01 a02 a03 a04, b6 g01 A00 l00.length n00 t28.2, r5 A00 l00.length n00 l00, b14 g02 A01 l01.length n01 (some ⟨g11, 0, none⟩) l02.length n02, r11 A01 l01.length n01 l01, r11 (some ⟨g11, 0, none⟩) l02.length n02 l02, b16 g03 a05 a06 a07] w119) := ⟨HS.out.call hS⟩
              clear hS
              by_cases c102 : (IntKind.u64.wrap (t29 - t04)) > 32
              ·replace H := if_yes c102 H
               have c102b0 : decide (32 < (IntKind.u64.wrap (t29 - t04))) = true := decide_eq_true c102
               clear c102
               replace HS : Aside0 (Sep FF w [b7 g00 g01 a01 a02 a03 a04, b6 g01 A00 l00.length n00 t28.2, r5 A00 l00.length n00 l00, b14 g02 A01 l01.length n01 (some ⟨g11, 0, none⟩) l02.length n02, r11 A01 l01.length n01 l01, r11 (some ⟨g11, 0, none⟩) l02.length n02 l02] w119) := ⟨HS.out.sub (.cons_cons _ (.cons_cons _ (.cons_cons _ (.cons_cons _ (.cons_cons _ (.cons_cons _ (.cons _ .slnil)))))))⟩
               go_wp2_with fail
               go_ret
               rw [← some_eq H]
               exact ⟨(by first | rfl | (simp [IntKind.wrap_u32]; done)), HS.out⟩
              ·replace H := if_no c102 H
               have c102b0 : decide (32 < (IntKind.u64.wrap (t29 - t04))) = false := decide_eq_false c102
               clear c102
               go_wp2_with fail
               obtain ⟨t30, HA109, H⟩ := bind_some H
               refine (ground_Ground_Meter.calls l00 t28.2 a01 a02 a03 a04 g00 g01 A00 l00.length n00 t30 _ ⟨HS.out.begin⟩ HA109).mono ?_
               rintro e_ w120 ⟨rfl, hS⟩
               replace HS : Aside0 (Sep FF w [b7 g00 g01 a01 a02 a03 a04, b6 g01 A00 l00.length n00 t28.2, r5 A00 l00.length n00 l00, b14 g02 A01 l01.length n01 (some ⟨g11, 0, none⟩) l02.length n02, r11 A01 l01.length n01 l01, r11 (some ⟨g11, 0, none⟩) l02.length n02 l02, b16 g03 a05 a06 a07] w120) := ⟨HS.out.call hS⟩
               clear hS
               have hc55 : w120.cell? ⟨g03, 1, none⟩ = some (.int .i64 a06) := blk_cellv (HS.out.at6) 1 rfl
               go_wp2_with fail
               clear hc55
               obtain ⟨t31, HA110, H⟩ := bind_some H
               refine (chain_List.calls _ l00 t28.2 a01 a02 a03 a04 a06 g00 g01 A00 l00.length n00 t31 _ ⟨HS.out.begin⟩ HA110).mono ?_
               rintro e_ w121 ⟨A19, m19, n19, rfl, hS⟩
               replace HS : Aside0 (Sep FF w [b7 g00 g01 a01 a02 a03 a04, b6 g01 A00 l00.length n00 t28.2, r5 A00 l00.length n00 l00, r11 A19 m19 n19 t31, b14 g02 A01 l01.length n01 (some ⟨g11, 0, none⟩) l02.length n02, r11 A01 l01.length n01 l01, r11 (some ⟨g11, 0, none⟩) l02.length n02 l02, b16 g03 a05 a06 a07] w121) := ⟨HS.out.call hS⟩
               clear hS
               obtain rfl := (row_len (HS.out.at3)).symm
               go_wp2_with fail
               obtain ⟨t32, HA111, H⟩ := bind_some H
               refine (quitrentref01_Ints.calls _ t31 l02 A19 n19 (some ⟨g11, 0, none⟩) n02 t32 _ ⟨Rd.ownI (l := []) HS.out 3 rfl⟩ ⟨Rd.ownI (l := []) HS.out 6 rfl⟩ ⟨Sep.start _⟩ HA111).mono ?_
               rintro e_ w122 ⟨rfl, hS⟩
               replace HS : Aside0 (Sep FF w [b7 g00 g01 a01 a02 a03 a04, b6 g01 A00 l00.length n00 t28.2, r5 A00 l00.length n00 l00, r11 A19 t31.length n19 t31, b14 g02 A01 l01.length n01 (some ⟨g11, 0, none⟩) l02.length n02, r11 A01 l01.length n01 l01, r11 (some ⟨g11, 0, none⟩) l02.length n02 l02, b16 g03 a05 a06 a07] w122) := ⟨HS.out.call hS⟩
               clear hS
               by_cases c103 : t32 = true
               ·replace H := if_yes c103 H
                have c103b0 : t32 = true := c103
                have c103b1 : (!t32) = false := by rw [c103b0]; rfl
                clear c103
                go_wp2_with fail
                obtain ⟨t33, HA112, H⟩ := bind_some H
                refine (ground_Ground_Meter.calls l00 t28.2 a01 a02 a03 a04 g00 g01 A00 l00.length n00 t33 _ ⟨HS.out.begin⟩ HA112).mono ?_
                rintro e_ w123 ⟨rfl, hS⟩
                replace HS : Aside0 (Sep FF w [b7 g00 g01 a01 a02 a03 a04, b6 g01 A00 l00.length n00 t28.2, r5 A00 l00.length n00 l00, r11 A19 t31.length n19 t31, b14 g02 A01 l01.length n01 (some ⟨g11, 0, none⟩) l02.length n02, r11 A01 l01.length n01 l01, r11 (some ⟨g11, 0, none⟩) l02.length n02 l02, b16 g03 a05 a06 a07] w123) := ⟨HS.out.call hS⟩
                clear hS
                replace HS : Aside0 (Sep FF w [b7 g00 g01 a01 a02 a03 a04, b6 g01 A00 l00.length n00 t28.2, r5 A00 l00.length n00 l00, b14 g02 A01 l01.length n01 (some ⟨g11, 0, none⟩) l02.length n02, r11 A01 l01.length n01 l01, r11 (some ⟨g11, 0, none⟩) l02.length n02 l02] w123) := ⟨HS.out.sub (.cons_cons _ (.cons_cons _ (.cons_cons _ (.cons _ (.cons_cons _ (.cons_cons _ (.cons_cons _ (.cons _ .slnil))))))))⟩
                go_wp2_with fail
                go_ret
                rw [← some_eq H]
                exact ⟨(by first | rfl | (simp [IntKind.wrap_u32]; done)), HS.out⟩
               ·replace H := if_no c103 H
                have c103b0 : t32 = false := by simpa using c103
                have c103b1 : (!t32) = true := by rw [c103b0]; rfl
                clear c103
                replace HS : Aside0 (Sep FF w [b7 g00 g01 a01 a02 a03 a04, b6 g01 A00 l00.length n00 t28.2, r5 A00 l00.length n00 l00, b14 g02 A01 l01.length n01 (some ⟨g11, 0, none⟩) l02.length n02, r11 A01 l01.length n01 l01, r11 (some ⟨g11, 0, none⟩) l02.length n02 l02] w122) := ⟨HS.out.sub (.cons_cons _ (.cons_cons _ (.cons_cons _ (.cons _ (.cons_cons _ (.cons_cons _ (.cons_cons _ (.cons _ .slnil))))))))⟩
                go_wp2_with fail
                go_ret
                rw [← some_eq H]
                exact ⟨(by first | rfl | (simp [IntKind.wrap_u32]; done)), HS.out⟩
             ·replace H := if_no c101 H
              have c101b0 : (t27.1 == (rd l02 0)) = false := beq_eq_false_iff_ne.mpr c101
              have c101b1 : (t27.1 != (rd l02 0)) = true := bne_iff_ne.mpr c101
              clear c101
              obtain ⟨g11, ea⟩ := row_at (HS.out.at5) (by have := True.intro; have := (of_decide_eq_true c100b0); omega); cases ea
              have hx14 := C_at_int (row_Ci (HS.out.at5)) 0 (by decide) (of_decide_eq_true c100b0)
              have hx15 : w118.cell? ⟨g11, 0, none⟩ = some (.int .i64 (rd l02 0)) := (row_get 0 (HS.out.at5) 0 (by decide) (of_decide_eq_true c100b0)).1
              replace HS : Aside0 (Sep FF w [b7 g00 g01 a01 a02 a03 a04, b6 g01 A00 l00.length n00 t28.2, r5 A00 l00.length n00 l00, b14 g02 A01 l01.length n01 (some ⟨g11, 0, none⟩) l02.length n02, r11 A01 l01.length n01 l01, r11 (some ⟨g11, 0, none⟩) l02.length n02 l02] w118) := ⟨HS.out.sub (.cons_cons _ (.cons_cons _ (.cons_cons _ (.cons_cons _ (.cons_cons _ (.cons_cons _ (.cons _ .slnil)))))))⟩
              go_wp2_with fail
              clear hx14 hx15
              go_ret
              rw [← some_eq H]
              exact ⟨(by first | rfl | (simp [IntKind.wrap_u32]; done)), HS.out⟩
            ·replace H := if_no c100 H
             have c100b0 : decide (0 < (l02.length : Int)) = false := decide_eq_false c100
             have c100b1 : decide (0 < l02.length) = false := decide_eq_false (by omega)
             clear c100
             exact (none_no H).elim
           ·replace H := if_no c99 H
            have c99b0 : decide (0 < (l02.length : Int)) = false := decide_eq_false c99
            have c99b1 : decide (0 < l02.length) = false := decide_eq_false (by omega)
            clear c99
            replace HS : Aside0 (Sep FF w [b7 g00 g01 a01 a02 a03 a04, b6 g01 A00 l00.length n00 t28.2, r5 A00 l00.length n00 l00, b14 g02 A01 l01.length n01 A02 l02.length n02, r11 A01 l01.length n01 l01, r11 A02 l02.length n02 l02] w118) := ⟨HS.out.sub (.cons_cons _ (.cons_cons _ (.cons_cons _ (.cons_cons _ (.cons_cons _ (.cons_cons _ (.cons _ .slnil)))))))⟩
            go_wp2_with fail
            go_ret
            rw [← some_eq H]
            exact ⟨(by first | rfl | (simp [IntKind.wrap_u32]; done)), HS.out⟩
          ·replace H := if_no c98 H
           have c98b0 : t27.2.1 = false := by simpa using c98
           have c98b1 : (!t27.2.1) = true := by rw [c98b0]; rfl
           clear c98
           by_cases c104 : (l02.length : Int) > 0
           ·replace H := if_yes c104 H
            have c104b0 : decide (0 < (l02.length : Int)) = true := decide_eq_true c104
            have c104b1 : decide (0 < l02.length) = true := decide_eq_true (by omega)
            clear c104
            replace HS : Aside0 (Sep FF w [b7 g00 g01 a01 a02 a03 a04, b6 g01 A00 l00.length n00 t28.2, r5 A00 l00.length n00 l00, b14 g02 A01 l01.length n01 A02 l02.length n02, r11 A01 l01.length n01 l01, r11 A02 l02.length n02 l02] w118) := ⟨HS.out.sub (.cons_cons _ (.cons_cons _ (.cons_cons _ (.cons_cons _ (.cons_cons _ (.cons_cons _ (.cons _ .slnil)))))))⟩
            go_wp2_with fail
            go_ret
            rw [← some_eq H]
            exact ⟨(by first | rfl | (simp [IntKind.wrap_u32]; done)), HS.out⟩
           ·replace H := if_no c104 H
            have c104b0 : decide (0 < (l02.length : Int)) = false := decide_eq_false c104
            have c104b1 : decide (0 < l02.length) = false := decide_eq_false (by omega)
            clear c104
            by_cases c105 : t27.1 = 0
            ·replace H := if_yes c105 H
             have c105b0 : (t27.1 == 0) = true := beq_iff_eq.mpr c105
             have c105b1 : (t27.1 != 0) = false := bne_eq_false_iff_eq.mpr c105
             clear c105
             go_wp2_with fail
             obtain ⟨t29, HA113, H⟩ := bind_some H
             refine (ground_Ground_Meter.calls l00 t28.2 a01 a02 a03 a04 g00 g01 A00 l00.length n00 t29 _ ⟨HS.out.begin⟩ HA113).mono ?_
             rintro e_ w124 ⟨rfl, hS⟩
             replace HS : Aside0 (Sep FF w [b7 g00 g01 a01 a02 a03 a04, b6 g01 A00 l00.length n00 t28.2, r5 A00 l00.length n00 l00, b14 g02 A01 l01.length n01 A02 l02.length n02, r11 A01 l01.length n01 l01, r11 A02 l02.length n02 l02, b16 g03 a05 a06 a07] w124) := ⟨HS.out.call hS⟩
             clear hS
             by_cases c106 : (IntKind.u64.wrap (t29 - t04)) > 32
             ·replace H := if_yes c106 H
              have c106b0 : decide (32 < (IntKind.u64.wrap (t29 - t04))) = true := decide_eq_true c106
              clear c106
              replace HS : Aside0 (Sep FF w [b7 g00 g01 a01 a02 a03 a04, b6 g01 A00 l00.length n00 t28.2, r5 A00 l00.length n00 l00, b14 g02 A01 l01.length n01 A02 l02.length n02, r11 A01 l01.length n01 l01, r11 A02 l02.length n02 l02] w124) := ⟨HS.out.sub (.cons_cons _ (.cons_cons _ (.cons_cons _ (.cons_cons _ (.cons_cons _ (.cons_cons _ (.cons _ .slnil)))))))⟩
              go_wp2_with fail
              go_ret
              rw [← some_eq H]
              exact ⟨(by first | rfl | (simp [IntKind.wrap_u32]; done)), HS.out⟩
             ·replace H := if_no c106 H
              have c106b0 : decide (32 < (IntKind.u64.wrap (t29 - t04))) = false := decide_eq_false c106
              clear c106
              go_wp2_with fail
              obtain ⟨t30, HA114, H⟩ := bind_some H
              refine (ground_Ground_Meter.calls l00 t28.2 a01 a02 a03 a04 g00 g01 A00 l00.length n00 t30 _ ⟨HS.out.begin⟩ HA114).mono ?_
              rintro e_ w125 ⟨rfl, hS⟩
              replace HS : Aside0 (Sep FF w [b7 g00 g01 a01 a02 a03 a04, b6 g01 A00 l00.length n00 t28.2, r5 A00 l00.length n00 l00, b14 g02 A01 l01.length n01 A02 l02.length n02, r11 A01 l01.length n01 l01, r11 A02 l02.length n02 l02, b16 g03 a05 a06 a07] w125) := ⟨HS.out.call hS⟩
              clear hS
              have hc56 : w125.cell? ⟨g03, 1, none⟩ = some (.int .i64 a06) := blk_cellv (HS.out.at6) 1 rfl
              go_wp2_with fail
              clear hc56
              obtain ⟨t31, HA115, H⟩ := bind_some H
              refine (chain_List.calls _ l00 t28.2 a01 a02 a03 a04 a06 g00 g01 A00 l00.length n00 t31 _ ⟨HS.out.begin⟩ HA115).mono ?_
              rintro e_ w126 ⟨A20, m20, n20, rfl, hS⟩
              replace HS : Aside0 (Sep FF w [b7 g00 g01 a01 a02 a03 a04, b6 g01 A00 l00.length n00 t28.2, r5 A00 l00.length n00 l00, r11 A20 m20 n20 t31, b14 g02 A01 l01.length n01 A02 l02.length n02, r11 A01 l01.length n01 l01, r11 A02 l02.length n02 l02, b16 g03 a05 a06 a07] w126) := ⟨HS.out.call hS⟩
              clear hS
              obtain rfl := (row_len (HS.out.at3)).symm
              go_wp2_with fail
              obtain ⟨t32, HA116, H⟩ := bind_some H
              refine (quitrentref01_Ints.calls _ t31 l02 A20 n20 A02 n02 t32 _ ⟨Rd.ownI (l := []) HS.out 3 rfl⟩ ⟨Rd.ownI (l := []) HS.out 6 rfl⟩ ⟨Sep.start _⟩ HA116).mono ?_
              rintro e_ w127 ⟨rfl, hS⟩
              replace HS : Aside0 (Sep FF w [b7 g00 g01 a01 a02 a03 a04, b6 g01 A00 l00.length n00 t28.2, r5 A00 l00.length n00 l00, r11 A20 t31.length n20 t31, b14 g02 A01 l01.length n01 A02 l02.length n02, r11 A01 l01.length n01 l01, r11 A02 l02.length n02 l02, b16 g03 a05 a06 a07] w127) := ⟨HS.out.call hS⟩
              clear hS
              by_cases c107 : t32 = true
              ·replace H := if_yes c107 H
               have c107b0 : t32 = true := c107
               have c107b1 : (!t32) = false := by rw [c107b0]; rfl
               clear c107
               go_wp2_with fail
               obtain ⟨t33, HA117, H⟩ := bind_some H
               refine (ground_Ground_Meter.calls l00 t28.2 a01 a02 a03 a04 g00 g01 A00 l00.length n00 t33 _ ⟨HS.out.begin⟩ HA117).mono ?_
               rintro e_ w128 ⟨rfl, hS⟩
               replace HS : Aside0 (Sep FF w [b7 g00 g01 a01 a02 a03 a04, b6 g01 A00 l00.length n00 t28.2, r5 A00 l00.length n00 l00, r11 A20 t31.length n20 t31, b14 g02 A01 l01.length n01 A02 l02.length n02, r11 A01 l01.length n01 l01, r11 A02 l02.length n02 l02, b16 g03 a05 a06 a07] w128) := ⟨HS.out.call hS⟩
               clear hS
               replace HS : Aside0 (Sep FF w [b7 g00 g01 a01 a02 a03 a04, b6 g01 A00 l00.length n00 t28.2, r5 A00 l00.length n00 l00, b14 g02 A01 l01.length n01 A02 l02.length n02, r11 A01 l01.length n01 l01, r11 A02 l02.length n02 l02] w128) := ⟨HS.out.sub (.cons_cons _ (.cons_cons _ (.cons_cons _ (.cons _ (.cons_cons _ (.cons_cons _ (.cons_cons _ (.cons _ .slnil))))))))⟩
               go_wp2_with fail
               go_ret
               rw [← some_eq H]
               exact ⟨(by first | rfl | (simp [IntKind.wrap_u32]; done)), HS.out⟩
              ·replace H := if_no c107 H
               have c107b0 : t32 = false := by simpa using c107
               have c107b1 : (!t32) = true := by rw [c107b0]; rfl
               clear c107
               replace HS : Aside0 (Sep FF w [b7 g00 g01 a01 a02 a03 a04, b6 g01 A00 l00.length n00 t28.2, r5 A00 l00.length n00 l00, b14 g02 A01 l01.length n01 A02 l02.length n02, r11 A01 l01.length n01 l01, r11 A02 l02.length n02 l02] w127) := ⟨HS.out.sub (.cons_cons _ (.cons_cons _ (.cons_cons _ (.cons _ (.cons_cons _ (.cons_cons _ (.cons_cons _ (.cons _ .slnil))))))))⟩
               go_wp2_with fail
               go_ret
               rw [← some_eq H]
               exact ⟨(by first | rfl | (simp [IntKind.wrap_u32]; done)), HS.out⟩
            ·replace H := if_no c105 H
             have c105b0 : (t27.1 == 0) = false := beq_eq_false_iff_ne.mpr c105
             have c105b1 : (t27.1 != 0) = true := bne_iff_ne.mpr c105
             clear c105
             replace HS : Aside0 (Sep FF w [b7 g00 g01 a01 a02 a03 a04, b6 g01 A00 l00.length n00 t28.2, r5 A00 l00.length n00 l00, b14 g02 A01 l01.length n01 A02 l02.length n02, r11 A01 l01.length n01 l01, r11 A02 l02.length n02 l02] w118) := ⟨HS.out.sub (.cons_cons _ (.cons_cons _ (.cons_cons _ (.cons_cons _ (.cons_cons _ (.cons_cons _ (.cons _ .slnil)))))))⟩
             go_wp2_with fail
             go_ret
             rw [← some_eq H]
             exact ⟨(by first | rfl | (simp [IntKind.wrap_u32]; done)), HS.out⟩
         ·replace H := if_no c97 H
          have c97b0 : (t28.1 == (l02.length : Int)) = false := beq_eq_false_iff_ne.mpr c97
          have c97b1 : (t28.1 != (l02.length : Int)) = true := bne_iff_ne.mpr c97
          clear c97
          replace HS : Aside0 (Sep FF w [b7 g00 g01 a01 a02 a03 a04, b6 g01 A00 l00.length n00 t28.2, r5 A00 l00.length n00 l00, b14 g02 A01 l01.length n01 A02 l02.length n02, r11 A01 l01.length n01 l01, r11 A02 l02.length n02 l02] w118) := ⟨HS.out.sub (.cons_cons _ (.cons_cons _ (.cons_cons _ (.cons_cons _ (.cons_cons _ (.cons_cons _ (.cons _ .slnil)))))))⟩
          go_wp2_with fail
          go_ret
          rw [← some_eq H]
          exact ⟨(by first | rfl | (simp [IntKind.wrap_u32]; done)), HS.out⟩
   ·replace H := if_no c54 H
    have c54b0 : (a06 == 1) = false := beq_eq_false_iff_ne.mpr c54
    have c54b1 : (a06 != 1) = true := bne_iff_ne.mpr c54
    clear c54
    try simp only [c54b0, Bool.not_true, Bool.not_false]
    refine pure_ (i := 2) (N := some 25) (v := undef) (a' := ?_) #[true, true, true, false, false, false, false, false, false, false, false, false, false, false, false] rfl rfl (by kernel_rfl) (fun _ _ _ h => h) (Or.inr ⟨by rfl, rfl⟩) ?_ ?_
    rotate_left
    ·simp only [Act.put, List.setIfInBounds_toArray, List.set_cons_zero, List.set_cons_succ, i64_w, i32_w]
     rfl
    try simp only [c54b0, Bool.not_true, Bool.not_false]
    refine pure_ (i := 3) (N := some 26) (v := undef) (a' := ?_) #[true, true, true, true, false, false, false, false, false, false, false, false, false, false, false] rfl rfl (by kernel_rfl) (fun _ _ _ h => h) (Or.inr ⟨by rfl, rfl⟩) ?_ ?_
    rotate_left
    ·simp only [Act.put, List.setIfInBounds_toArray, List.set_cons_zero, List.set_cons_succ, i64_w, i32_w]
     rfl
    try simp only [c54b0, Bool.not_true, Bool.not_false]
    refine pure_ (i := 4) (N := some 27) (v := undef) (a' := ?_) #[true, true, true, true, true, false, false, false, false, false, false, false, false, false, false] rfl rfl (by kernel_rfl) (fun _ _ _ h => h) (Or.inr ⟨by rfl, rfl⟩) ?_ ?_
    rotate_left
    ·simp only [Act.put, List.setIfInBounds_toArray, List.set_cons_zero, List.set_cons_succ, i64_w, i32_w]
     rfl
    refine pure_ (i := 5) (N := some 28) (v := ?_) (a' := ?_) #[true, true, true, true, true, true, false, false, false, false, false, false, false, false, false] rfl rfl (by kernel_rfl) (fun _ _ _ h => h) (Or.inl ⟨by rfl, ?_⟩) ?_ ?_
    rotate_left
    ·intro w'
     go_simp
     with_reducible rfl
    rotate_left
    ·simp only [Act.put, List.setIfInBounds_toArray, List.set_cons_zero, List.set_cons_succ, i64_w, i32_w]
     rfl
    refine pure_ (i := 6) (N := some 29) (v := ?_) (a' := ?_) #[true, true, true, true, true, true, true, false, false, false, false, false, false, false, false] rfl rfl (by kernel_rfl) (fun _ _ _ h => h) (Or.inl ⟨by rfl, ?_⟩) ?_ ?_
    rotate_left
    ·intro w'
     go_simp
     with_reducible rfl
    rotate_left
    ·simp only [Act.put, List.setIfInBounds_toArray, List.set_cons_zero, List.set_cons_succ, i64_w, i32_w]
     rfl
    refine pure_ (i := 7) (N := some 30) (v := undef) (a' := ?_) #[true, true, true, true, true, true, true, true, false, false, false, false, false, false, false] rfl rfl (by kernel_rfl) (fun _ _ _ h => h) (Or.inr ⟨by rfl, rfl⟩) ?_ ?_
    rotate_left
    ·simp only [Act.put, List.setIfInBounds_toArray, List.set_cons_zero, List.set_cons_succ, i64_w, i32_w]
     rfl
    refine pure_ (i := 8) (N := some 31) (v := undef) (a' := ?_) #[true, true, true, true, true, true, true, true, true, false, false, false, false, false, false] rfl rfl (by kernel_rfl) (fun _ _ _ h => h) (Or.inr ⟨by rfl, rfl⟩) ?_ ?_
    rotate_left
    ·simp only [Act.put, List.setIfInBounds_toArray, List.set_cons_zero, List.set_cons_succ, i64_w, i32_w]
     rfl
    refine pure_ (i := 9) (N := some 32) (v := undef) (a' := ?_) #[true, true, true, true, true, true, true, true, true, true, false, false, false, false, false] rfl rfl (by kernel_rfl) (fun _ _ _ h => h) (Or.inr ⟨by rfl, rfl⟩) ?_ ?_
    rotate_left
    ·simp only [Act.put, List.setIfInBounds_toArray, List.set_cons_zero, List.set_cons_succ, i64_w, i32_w]
     rfl
    refine pure_ (i := 10) (N := some 33) (v := undef) (a' := ?_) #[true, true, true, true, true, true, true, true, true, true, true, false, false, false, false] rfl rfl (by kernel_rfl) (fun _ _ _ h => h) (Or.inr ⟨by rfl, rfl⟩) ?_ ?_
    rotate_left
    ·simp only [Act.put, List.setIfInBounds_toArray, List.set_cons_zero, List.set_cons_succ, i64_w, i32_w]
     rfl
    refine pure_ (i := 11) (N := some 34) (v := undef) (a' := ?_) #[true, true, true, true, true, true, true, true, true, true, true, true, false, false, false] rfl rfl (by kernel_rfl) (fun _ _ _ h => h) (Or.inr ⟨by rfl, rfl⟩) ?_ ?_
    rotate_left
    ·simp only [Act.put, List.setIfInBounds_toArray, List.set_cons_zero, List.set_cons_succ, i64_w, i32_w]
     rfl
    refine pure_ (i := 12) (N := some 35) (v := undef) (a' := ?_) #[true, true, true, true, true, true, true, true, true, true, true, true, true, false, false] rfl rfl (by kernel_rfl) (fun _ _ _ h => h) (Or.inr ⟨by rfl, rfl⟩) ?_ ?_
    rotate_left
    ·simp only [Act.put, List.setIfInBounds_toArray, List.set_cons_zero, List.set_cons_succ, i64_w, i32_w]
     rfl
    refine pure_ (i := 13) (N := some 36) (v := ?_) (a' := ?_) #[true, true, true, true, true, true, true, true, true, true, true, true, true, true, false] rfl rfl (by kernel_rfl) (fun _ _ _ h => h) (Or.inl ⟨by rfl, ?_⟩) ?_ ?_
    rotate_left
    ·intro w'
     go_simp
     with_reducible rfl
    rotate_left
    ·simp only [Act.put, List.setIfInBounds_toArray, List.set_cons_zero, List.set_cons_succ, i64_w, i32_w]
     rfl
    refine pure_ (i := 14) (N := some 8) (v := ?_) (a' := ?_) #[true, true, true, true, true, true, true, true, true, true, true, true, true, true, true] rfl rfl (by kernel_rfl) (fun _ _ _ h => h) (Or.inl ⟨by rfl, ?_⟩) ?_ ?_
    rotate_left
    ·intro w'
     go_simp
     with_reducible rfl
    rotate_left
    ·simp only [Act.put, List.setIfInBounds_toArray, List.set_cons_zero, List.set_cons_succ, i64_w, i32_w]
     rfl
    refine done_ (by kernel_rfl) ?_
    go_wp2_with fail
    obtain ⟨t04, HA118, H⟩ := bind_some H
    refine (ground_Ground_Meter.calls l00 a00 a01 a02 a03 a04 g00 g01 A00 l00.length n00 t04 _ ⟨HS.out.begin⟩ HA118).mono ?_
    rintro e_ w129 ⟨rfl, hS⟩
    replace HS : Aside0 (Sep FF w [b7 g00 g01 a01 a02 a03 a04, b6 g01 A00 l00.length n00 a00, r5 A00 l00.length n00 l00, b14 g02 A01 l01.length n01 A02 l02.length n02, r11 A01 l01.length n01 l01, r11 A02 l02.length n02 l02, b16 g03 a05 a06 a07] w129) := ⟨HS.out.call hS⟩
    clear hS
    by_cases c108 : a05 = 0
    ·replace H := if_yes c108 H
     have c108b0 : (a05 == 0) = true := beq_iff_eq.mpr c108
     have c108b1 : (a05 != 0) = false := bne_eq_false_iff_eq.mpr c108
     clear c108
     have hc57 : w129.cell? ⟨g03, 0, none⟩ = some (.int .u8 a05) := blk_cellv (HS.out.at6) 0 rfl
     have hc58 : w129.cell? ⟨g03, 1, none⟩ = some (.int .i64 a06) := blk_cellv (HS.out.at6) 1 rfl
     have hc59 : w129.cell? ⟨g03, 2, none⟩ = some (.int .i64 a07) := blk_cellv (HS.out.at6) 2 rfl
     go_wp2_with fail
     clear hc57 hc58 hc59
     obtain ⟨t10, HA119, H⟩ := bind_some H
     refine (chain_Push.calls l00 a00 a01 a02 a03 a04 a06 a07 g00 g01 A00 l00.length n00 t10 _ ⟨HS.out.begin⟩ HA119).mono ?_
     rintro e_ w130 ⟨rfl, hS⟩
     replace HS : Aside0 (Sep FF w [b7 g00 g01 a01 a02 a03 a04, b6 g01 A00 l00.length n00 t10.2.1, r5 A00 l00.length n00 t10.2.2, b14 g02 A01 l01.length n01 A02 l02.length n02, r11 A01 l01.length n01 l01, r11 A02 l02.length n02 l02, b16 g03 a05 a06 a07] w130) := ⟨HS.out.call hS⟩
     clear hS
     by_cases c109 : t10.1 = true
     ·replace H := if_yes c109 H
      have c109b0 : t10.1 = true := c109
      have c109b1 : (!t10.1) = false := by rw [c109b0]; rfl
      clear c109
      replace HS : Aside0 (Sep FF w [b7 g00 g01 a01 a02 a03 a04, b6 g01 A00 l00.length n00 t10.2.1, r5 A00 l00.length n00 t10.2.2, b14 g02 A01 l01.length n01 A02 l02.length n02, r11 A01 l01.length n01 l01, r11 A02 l02.length n02 l02] w130) := ⟨HS.out.sub (.cons_cons _ (.cons_cons _ (.cons_cons _ (.cons_cons _ (.cons_cons _ (.cons_cons _ (.cons _ .slnil)))))))⟩
      go_wp2_with fail
      go_ret
      rw [← some_eq H]
      exact ⟨(by first | rfl | (simp [IntKind.wrap_u32]; done)), HS.out⟩
     ·replace H := if_no c109 H
      have c109b0 : t10.1 = false := by simpa using c109
      have c109b1 : (!t10.1) = true := by rw [c109b0]; rfl
      clear c109
      go_wp2_with fail
      obtain ⟨t11, HA120, H⟩ := bind_some H
      refine (ground_Ground_Meter.calls t10.2.2 t10.2.1 a01 a02 a03 a04 g00 g01 A00 l00.length n00 t11 _ ⟨HS.out.begin⟩ HA120).mono ?_
      rintro e_ w131 ⟨rfl, hS⟩
      replace HS : Aside0 (Sep FF w [b7 g00 g01 a01 a02 a03 a04, b6 g01 A00 l00.length n00 t10.2.1, r5 A00 l00.length n00 t10.2.2, b14 g02 A01 l01.length n01 A02 l02.length n02, r11 A01 l01.length n01 l01, r11 A02 l02.length n02 l02, b16 g03 a05 a06 a07] w131) := ⟨HS.out.call hS⟩
      clear hS
      replace HS : Aside0 (Sep FF w [b7 g00 g01 a01 a02 a03 a04, b6 g01 A00 l00.length n00 t10.2.1, r5 A00 l00.length n00 t10.2.2, b14 g02 A01 l01.length n01 A02 l02.length n02, r11 A01 l01.length n01 l01, r11 A02 l02.length n02 l02] w131) := ⟨HS.out.sub (.cons_cons _ (.cons_cons _ (.cons_cons _ (.cons_cons _ (.cons_cons _ (.cons_cons _ (.cons _ .slnil)))))))⟩
      go_wp2_with fail
      go_ret
      rw [← some_eq H]
      exact ⟨(by first | rfl | (simp [IntKind.wrap_u32]; done)), HS.out⟩
    ·replace H := if_no c108 H
     have c108b0 : (a05 == 0) = false := beq_eq_false_iff_ne.mpr c108
     have c108b1 : (a05 != 0) = true := bne_iff_ne.mpr c108
     clear c108
     by_cases c110 : a05 = 1
     ·replace H := if_yes c110 H
      have c110b0 : (a05 == 1) = true := beq_iff_eq.mpr c110
      have c110b1 : (a05 != 1) = false := bne_eq_false_iff_eq.mpr c110
      clear c110
      have hc57 : w129.cell? ⟨g03, 0, none⟩ = some (.int .u8 a05) := blk_cellv (HS.out.at6) 0 rfl
      have hc60 : w129.cell? ⟨g03, 1, none⟩ = some (.int .i64 a06) := blk_cellv (HS.out.at6) 1 rfl
      have hc61 : w129.cell? ⟨g03, 2, none⟩ = some (.int .i64 a07) := blk_cellv (HS.out.at6) 2 rfl
      go_wp2_with fail
      clear hc57 hc60 hc61
      obtain ⟨t17, HA121, H⟩ := bind_some H
      refine (chain_Add.calls l00 a00 a01 a02 a03 a04 a06 a07 g00 g01 A00 l00.length n00 t17 _ ⟨HS.out.begin⟩ HA121).mono ?_
      rintro e_ w132 ⟨rfl, hS⟩
      replace HS : Aside0 (Sep FF w [b7 g00 g01 a01 a02 a03 a04, b6 g01 A00 l00.length n00 t17.2.1, r5 A00 l00.length n00 t17.2.2, b14 g02 A01 l01.length n01 A02 l02.length n02, r11 A01 l01.length n01 l01, r11 A02 l02.length n02 l02, b16 g03 a05 a06 a07] w132) := ⟨HS.out.call hS⟩
      clear hS
      by_cases c111 : t17.1 = true
      ·replace H := if_yes c111 H
       have c111b0 : t17.1 = true := c111
       have c111b1 : (!t17.1) = false := by rw [c111b0]; rfl
       clear c111
       replace HS : Aside0 (Sep FF w [b7 g00 g01 a01 a02 a03 a04, b6 g01 A00 l00.length n00 t17.2.1, r5 A00 l00.length n00 t17.2.2, b14 g02 A01 l01.length n01 A02 l02.length n02, r11 A01 l01.length n01 l01, r11 A02 l02.length n02 l02] w132) := ⟨HS.out.sub (.cons_cons _ (.cons_cons _ (.cons_cons _ (.cons_cons _ (.cons_cons _ (.cons_cons _ (.cons _ .slnil)))))))⟩
       go_wp2_with fail
       go_ret
       rw [← some_eq H]
       exact ⟨(by first | rfl | (simp [IntKind.wrap_u32]; done)), HS.out⟩
      ·replace H := if_no c111 H
       have c111b0 : t17.1 = false := by simpa using c111
       have c111b1 : (!t17.1) = true := by rw [c111b0]; rfl
       clear c111
       go_wp2_with fail
       obtain ⟨t18, HA122, H⟩ := bind_some H
       refine (ground_Ground_Meter.calls t17.2.2 t17.2.1 a01 a02 a03 a04 g00 g01 A00 l00.length n00 t18 _ ⟨HS.out.begin⟩ HA122).mono ?_
       rintro e_ w133 ⟨rfl, hS⟩
       replace HS : Aside0 (Sep FF w [b7 g00 g01 a01 a02 a03 a04, b6 g01 A00 l00.length n00 t17.2.1, r5 A00 l00.length n00 t17.2.2, b14 g02 A01 l01.length n01 A02 l02.length n02, r11 A01 l01.length n01 l01, r11 A02 l02.length n02 l02, b16 g03 a05 a06 a07] w133) := ⟨HS.out.call hS⟩
       clear hS
       replace HS : Aside0 (Sep FF w [b7 g00 g01 a01 a02 a03 a04, b6 g01 A00 l00.length n00 t17.2.1, r5 A00 l00.length n00 t17.2.2, b14 g02 A01 l01.length n01 A02 l02.length n02, r11 A01 l01.length n01 l01, r11 A02 l02.length n02 l02] w133) := ⟨HS.out.sub (.cons_cons _ (.cons_cons _ (.cons_cons _ (.cons_cons _ (.cons_cons _ (.cons_cons _ (.cons _ .slnil)))))))⟩
       go_wp2_with fail
       go_ret
       rw [← some_eq H]
       exact ⟨(by first | rfl | (simp [IntKind.wrap_u32]; done)), HS.out⟩
     ·replace H := if_no c110 H
      have c110b0 : (a05 == 1) = false := beq_eq_false_iff_ne.mpr c110
      have c110b1 : (a05 != 1) = true := bne_iff_ne.mpr c110
      clear c110
      by_cases c112 : a05 = 2
      ·replace H := if_yes c112 H
       have c112b0 : (a05 == 2) = true := beq_iff_eq.mpr c112
       have c112b1 : (a05 != 2) = false := bne_eq_false_iff_eq.mpr c112
       clear c112
       have hc57 : w129.cell? ⟨g03, 0, none⟩ = some (.int .u8 a05) := blk_cellv (HS.out.at6) 0 rfl
       have hc62 : w129.cell? ⟨g03, 1, none⟩ = some (.int .i64 a06) := blk_cellv (HS.out.at6) 1 rfl
       go_wp2_with fail
       clear hc57 hc62
       obtain ⟨t19, HA123, H⟩ := bind_some H
       refine (chain_Take.calls l00 a00 a01 a02 a03 a04 a06 g00 g01 A00 l00.length n00 t19 _ ⟨HS.out.begin⟩ HA123).mono ?_
       rintro e_ w134 ⟨rfl, hS⟩
       replace HS : Aside0 (Sep FF w [b7 g00 g01 a01 a02 a03 a04, b6 g01 A00 l00.length n00 t19.2.2.1, r5 A00 l00.length n00 t19.2.2.2, b14 g02 A01 l01.length n01 A02 l02.length n02, r11 A01 l01.length n01 l01, r11 A02 l02.length n02 l02, b16 g03 a05 a06 a07] w134) := ⟨HS.out.call hS⟩
       clear hS
       by_cases c113 : t19.1 = 0
       ·replace H := if_yes c113 H
        have c113b0 : (t19.1 == 0) = true := beq_iff_eq.mpr c113
        have c113b1 : (t19.1 != 0) = false := bne_eq_false_iff_eq.mpr c113
        clear c113
        by_cases c114 : t19.2.1 = true
        ·replace H := if_yes c114 H
         have c114b0 : t19.2.1 = true := c114
         have c114b1 : (!t19.2.1) = false := by rw [c114b0]; rfl
         try rw [c114b1]
         clear c114
         replace HS : Aside0 (Sep FF w [b7 g00 g01 a01 a02 a03 a04, b6 g01 A00 l00.length n00 t19.2.2.1, r5 A00 l00.length n00 t19.2.2.2, b14 g02 A01 l01.length n01 A02 l02.length n02, r11 A01 l01.length n01 l01, r11 A02 l02.length n02 l02] w134) := ⟨HS.out.sub (.cons_cons _ (.cons_cons _ (.cons_cons _ (.cons_cons _ (.cons_cons _ (.cons_cons _ (.cons _ .slnil)))))))⟩
         go_wp2_with fail
         go_ret
         rw [← some_eq H]
         exact ⟨(by first | rfl | (simp [IntKind.wrap_u32]; done)), HS.out⟩
        ·replace H := if_no c114 H
         have c114b0 : t19.2.1 = false := by simpa using c114
         have c114b1 : (!t19.2.1) = true := by rw [c114b0]; rfl
         try rw [c114b1]
         clear c114
         go_wp2_with fail
         obtain ⟨t20, HA124, H⟩ := bind_some H
         refine (ground_Ground_Meter.calls t19.2.2.2 t19.2.2.1 a01 a02 a03 a04 g00 g01 A00 l00.length n00 t20 _ ⟨HS.out.begin⟩ HA124).mono ?_
         rintro e_ w135 ⟨rfl, hS⟩
         replace HS : Aside0 (Sep FF w [b7 g00 g01 a01 a02 a03 a04, b6 g01 A00 l00.length n00 t19.2.2.1, r5 A00 l00.length n00 t19.2.2.2, b14 g02 A01 l01.length n01 A02 l02.length n02, r11 A01 l01.length n01 l01, r11 A02 l02.length n02 l02, b16 g03 a05 a06 a07] w135) := ⟨HS.out.call hS⟩
         clear hS
         replace HS : Aside0 (Sep FF w [b7 g00 g01 a01 a02 a03 a04, b6 g01 A00 l00.length n00 t19.2.2.1, r5 A00 l00.length n00 t19.2.2.2, b14 g02 A01 l01.length n01 A02 l02.length n02, r11 A01 l01.length n01 l01, r11 A02 l02.length n02 l02] w135) := ⟨HS.out.sub (.cons_cons _ (.cons_cons _ (.cons_cons _ (.cons_cons _ (.cons_cons _ (.cons_cons _ (.cons _ .slnil)))))))⟩
         go_wp2_with fail
         go_ret
         rw [← some_eq H]
         exact ⟨(by first | rfl | (simp [IntKind.wrap_u32]; done)), HS.out⟩
       ·replace H := if_no c113 H
        have c113b0 : (t19.1 == 0) = false := beq_eq_false_iff_ne.mpr c113
        have c113b1 : (t19.1 != 0) = true := bne_iff_ne.mpr c113
        clear c113
        replace HS : Aside0 (Sep FF w [b7 g00 g01 a01 a02 a03 a04, b6 g01 A00 l00.length n00 t19.2.2.1, r5 A00 l00.length n00 t19.2.2.2, b14 g02 A01 l01.length n01 A02 l02.length n02, r11 A01 l01.length n01 l01, r11 A02 l02.length n02 l02] w134) := ⟨HS.out.sub (.cons_cons _ (.cons_cons _ (.cons_cons _ (.cons_cons _ (.cons_cons _ (.cons_cons _ (.cons _ .slnil)))))))⟩
        go_wp2_with fail
        go_ret
        rw [← some_eq H]
        exact ⟨(by first | rfl | (simp [IntKind.wrap_u32]; done)), HS.out⟩
      ·replace H := if_no c112 H
       have c112b0 : (a05 == 2) = false := beq_eq_false_iff_ne.mpr c112
       have c112b1 : (a05 != 2) = true := bne_iff_ne.mpr c112
       clear c112
       have hc57 : w129.cell? ⟨g03, 0, none⟩ = some (.int .u8 a05) := blk_cellv (HS.out.at6) 0 rfl
       have hc63 : w129.cell? ⟨g03, 1, none⟩ = some (.int .i64 a06) := blk_cellv (HS.out.at6) 1 rfl
       go_wp2_with fail
       clear hc57 hc63
       obtain ⟨t27, HA125, H⟩ := bind_some H
       refine (chain_First.calls l00 a00 a01 a02 a03 a04 a06 g00 g01 A00 l00.length n00 t27 _ ⟨HS.out.begin⟩ HA125).mono ?_
       rintro e_ w136 ⟨rfl, hS⟩
       replace HS : Aside0 (Sep FF w [b7 g00 g01 a01 a02 a03 a04, b6 g01 A00 l00.length n00 t27.2.2, r5 A00 l00.length n00 l00, b14 g02 A01 l01.length n01 A02 l02.length n02, r11 A01 l01.length n01 l01, r11 A02 l02.length n02 l02, b16 g03 a05 a06 a07] w136) := ⟨HS.out.call hS⟩
       clear hS
       have hc64 : w136.cell? ⟨g03, 1, none⟩ = some (.int .i64 a06) := blk_cellv (HS.out.at6) 1 rfl
       go_wp2_with fail
       clear hc64
       obtain ⟨t28, HA126, H⟩ := bind_some H
       refine (chain_Len.calls l00 t27.2.2 a01 a02 a03 a04 a06 g00 g01 A00 l00.length n00 t28 _ ⟨HS.out.begin⟩ HA126).mono ?_
       rintro e_ w137 ⟨rfl, hS⟩
       replace HS : Aside0 (Sep FF w [b7 g00 g01 a01 a02 a03 a04, b6 g01 A00 l00.length n00 t28.2, r5 A00 l00.length n00 l00, b14 g02 A01 l01.length n01 A02 l02.length n02, r11 A01 l01.length n01 l01, r11 A02 l02.length n02 l02, b16 g03 a05 a06 a07] w137) := ⟨HS.out.call hS⟩
       clear hS
       by_cases c115 : t28.1 = 0
       ·replace H := if_yes c115 H
        have c115b0 : (t28.1 == 0) = true := beq_iff_eq.mpr c115
        have c115b1 : (t28.1 != 0) = false := bne_eq_false_iff_eq.mpr c115
        clear c115
        by_cases c116 : t27.2.1 = true
        ·replace H := if_yes c116 H
         have c116b0 : t27.2.1 = true := c116
         have c116b1 : (!t27.2.1) = false := by rw [c116b0]; rfl
         clear c116
         replace HS : Aside0 (Sep FF w [b7 g00 g01 a01 a02 a03 a04, b6 g01 A00 l00.length n00 t28.2, r5 A00 l00.length n00 l00, b14 g02 A01 l01.length n01 A02 l02.length n02, r11 A01 l01.length n01 l01, r11 A02 l02.length n02 l02] w137) := ⟨HS.out.sub (.cons_cons _ (.cons_cons _ (.cons_cons _ (.cons_cons _ (.cons_cons _ (.cons_cons _ (.cons _ .slnil)))))))⟩
         go_wp2_with fail
         go_ret
         rw [← some_eq H]
         exact ⟨(by first | rfl | (simp [IntKind.wrap_u32]; done)), HS.out⟩
        ·replace H := if_no c116 H
         have c116b0 : t27.2.1 = false := by simpa using c116
         have c116b1 : (!t27.2.1) = true := by rw [c116b0]; rfl
         clear c116
         by_cases c117 : t27.1 = 0
         ·replace H := if_yes c117 H
          have c117b0 : (t27.1 == 0) = true := beq_iff_eq.mpr c117
          have c117b1 : (t27.1 != 0) = false := bne_eq_false_iff_eq.mpr c117
          clear c117
          go_wp2_with fail
          obtain ⟨t29, HA127, H⟩ := bind_some H
          refine (ground_Ground_Meter.calls l00 t28.2 a01 a02 a03 a04 g00 g01 A00 l00.length n00 t29 _ ⟨HS.out.begin⟩ HA127).mono ?_
          rintro e_ w138 ⟨rfl, hS⟩
          replace HS : Aside0 (Sep FF w [b7 g00 g01 a01 a02 a03 a04, b6 g01 A00 l00.length n00 t28.2, r5 A00 l00.length n00 l00, b14 g02 A01 l01.length n01 A02 l02.length n02, r11 A01 l01.length n01 l01, r11 A02 l02.length n02 l02, b16 g03 a05 a06 a07] w138) := ⟨HS.out.call hS⟩
          clear hS
          by_cases c118 : (IntKind.u64.wrap (t29 - t04)) > 32
          ·replace H := if_yes c118 H
           have c118b0 : decide (32 < (IntKind.u64.wrap (t29 - t04))) = true := decide_eq_true c118
           clear c118
           replace HS : Aside0 (Sep FF w [b7 g00 g01 a01 a02 a03 a04, b6 g01 A00 l00.length n00 t28.2, r5 A00 l00.length n00 l00, b14 g02 A01 l01.length n01 A02 l02.length n02, r11 A01 l01.length n01 l01, r11 A02 l02.length n02 l02] w138) := ⟨HS.out.sub (.cons_cons _ (.cons_cons _ (.cons_cons _ (.cons_cons _ (.cons_cons _ (.cons_cons _ (.cons _ .slnil)))))))⟩
           go_wp2_with fail
           go_ret
           rw [← some_eq H]
           exact ⟨(by first | rfl | (simp [IntKind.wrap_u32]; done)), HS.out⟩
          ·replace H := if_no c118 H
           have c118b0 : decide (32 < (IntKind.u64.wrap (t29 - t04))) = false := decide_eq_false c118
           clear c118
           go_wp2_with fail
           obtain ⟨t30, HA128, H⟩ := bind_some H
           refine (ground_Ground_Meter.calls l00 t28.2 a01 a02 a03 a04 g00 g01 A00 l00.length n00 t30 _ ⟨HS.out.begin⟩ HA128).mono ?_
           rintro e_ w139 ⟨rfl, hS⟩
           replace HS : Aside0 (Sep FF w [b7 g00 g01 a01 a02 a03 a04, b6 g01 A00 l00.length n00 t28.2, r5 A00 l00.length n00 l00, b14 g02 A01 l01.length n01 A02 l02.length n02, r11 A01 l01.length n01 l01, r11 A02 l02.length n02 l02, b16 g03 a05 a06 a07] w139) := ⟨HS.out.call hS⟩
           clear hS
           have hc65 : w139.cell? ⟨g03, 1, none⟩ = some (.int .i64 a06) := blk_cellv (HS.out.at6) 1 rfl
           go_wp2_with fail
           clear hc65
           obtain ⟨t31, HA129, H⟩ := bind_some H
           refine (chain_List.calls _ l00 t28.2 a01 a02 a03 a04 a06 g00 g01 A00 l00.length n00 t31 _ ⟨HS.out.begin⟩ HA129).mono ?_
           rintro e_ w140 ⟨A21, m21, n21, rfl, hS⟩
           replace HS : Aside0 (Sep FF w [b7 g00 g01 a01 a02 a03 a04, b6 g01 A00 l00.length n00 t28.2, r5 A00 l00.length n00 l00, r11 A21 m21 n21 t31, b14 g02 A01 l01.length n01 A02 l02.length n02, r11 A01 l01.length n01 l01, r11 A02 l02.length n02 l02, b16 g03 a05 a06 a07] w140) := ⟨HS.out.call hS⟩
           clear hS
           obtain rfl := (row_len (HS.out.at3)).symm
           go_wp2_with fail
           obtain ⟨t32, HA130, H⟩ := bind_some H
           refine (quitrentref01_Ints.calls _ t31 ([] : List Int) A21 n21 none 0 t32 _ ⟨Rd.ownI (l := []) HS.out 3 rfl⟩ ⟨Rd.nil _ _ _⟩ ⟨Sep.start _⟩ HA130).mono ?_
           rintro e_ w141 ⟨rfl, hS⟩
           replace HS : Aside0 (Sep FF w [b7 g00 g01 a01 a02 a03 a04, b6 g01 A00 l00.length n00 t28.2, r5 A00 l00.length n00 l00, r11 A21 t31.length n21 t31, b14 g02 A01 l01.length n01 A02 l02.length n02, r11 A01 l01.length n01 l01, r11 A02 l02.length n02 l02, b16 g03 a05 a06 a07] w141) := ⟨HS.out.call hS⟩
           clear hS
           by_cases c119 : t32 = true
           ·replace H := if_yes c119 H
            have c119b0 : t32 = true := c119
            have c119b1 : (!t32) = false := by rw [c119b0]; rfl
            clear c119
            go_wp2_with fail
            obtain ⟨t33, HA131, H⟩ := bind_some H
            refine (ground_Ground_Meter.calls l00 t28.2 a01 a02 a03 a04 g00 g01 A00 l00.length n00 t33 _ ⟨HS.out.begin⟩ HA131).mono ?_
            rintro e_ w142 ⟨rfl, hS⟩
            replace HS : Aside0 (Sep FF w [b7 g00 g01 a01 a02 a03 a04, b6 g01 A00 l00.length n00 t28.2, r5 A00 l00.length n00 l00, r11 A21 t31.length n21 t31, b14 g02 A01 l01.length n01 A02 l02.length n02, r11 A01 l01.length n01 l01, r11 A02 l02.length n02 l02, b16 g03 a05 a06 a07] w142) := ⟨HS.out.call hS⟩
            clear hS
            replace HS : Aside0 (Sep FF w [b7 g00 g01 a01 a02 a03 a04, b6 g01 A00 l00.length n00 t28.2, r5 A00 l00.length n00 l00, b14 g02 A01 l01.length n01 A02 l02.length n02, r11 A01 l01.length n01 l01, r11 A02 l02.length n02 l02] w142) := ⟨HS.out.sub (.cons_cons _ (.cons_cons _ (.cons_cons _ (.cons _ (.cons_cons _ (.cons_cons _ (.cons_cons _ (.cons _ .slnil))))))))⟩
            go_wp2_with fail
            go_ret
            rw [← some_eq H]
            exact ⟨(by first | rfl | (simp [IntKind.wrap_u32]; done)), HS.out⟩
           ·replace H := if_no c119 H
            have c119b0 : t32 = false := by simpa using c119
            have c119b1 : (!t32) = true := by rw [c119b0]; rfl
            clear c119
            replace HS : Aside0 (Sep FF w [b7 g00 g01 a01 a02 a03 a04, b6 g01 A00 l00.length n00 t28.2, r5 A00 l00.length n00 l00, b14 g02 A01 l01.length n01 A02 l02.length n02, r11 A01 l01.length n01 l01, r11 A02 l02.length n02 l02] w141) := ⟨HS.out.sub (.cons_cons _ (.cons_cons _ (.cons_cons _ (.cons _ (.cons_cons _ (.cons_cons _ (.cons_cons _ (.cons _ .slnil))))))))⟩
            go_wp2_with fail
            go_ret
            rw [← some_eq H]
            exact ⟨(by first | rfl | (simp [IntKind.wrap_u32]; done)), HS.out⟩
         ·replace H := if_no c117 H
          have c117b0 : (t27.1 == 0) = false := beq_eq_false_iff_ne.mpr c117
          have c117b1 : (t27.1 != 0) = true := bne_iff_ne.mpr c117
          clear c117
          replace HS : Aside0 (Sep FF w [b7 g00 g01 a01 a02 a03 a04, b6 g01 A00 l00.length n00 t28.2, r5 A00 l00.length n00 l00, b14 g02 A01 l01.length n01 A02 l02.length n02, r11 A01 l01.length n01 l01, r11 A02 l02.length n02 l02] w137) := ⟨HS.out.sub (.cons_cons _ (.cons_cons _ (.cons_cons _ (.cons_cons _ (.cons_cons _ (.cons_cons _ (.cons _ .slnil)))))))⟩
          go_wp2_with fail
          go_ret
          rw [← some_eq H]
          exact ⟨(by first | rfl | (simp [IntKind.wrap_u32]; done)), HS.out⟩
       ·replace H := if_no c115 H
        have c115b0 : (t28.1 == 0) = false := beq_eq_false_iff_ne.mpr c115
        have c115b1 : (t28.1 != 0) = true := bne_iff_ne.mpr c115
        clear c115
        replace HS : Aside0 (Sep FF w [b7 g00 g01 a01 a02 a03 a04, b6 g01 A00 l00.length n00 t28.2, r5 A00 l00.length n00 l00, b14 g02 A01 l01.length n01 A02 l02.length n02, r11 A01 l01.length n01 l01, r11 A02 l02.length n02 l02] w137) := ⟨HS.out.sub (.cons_cons _ (.cons_cons _ (.cons_cons _ (.cons_cons _ (.cons_cons _ (.cons_cons _ (.cons _ .slnil)))))))⟩
        go_wp2_with fail
        go_ret
        rw [← some_eq H]
        exact ⟨(by first | rfl | (simp [IntKind.wrap_u32]; done)), HS.out⟩
end Go.Proofs.Ytobeonkddamnoaa.C

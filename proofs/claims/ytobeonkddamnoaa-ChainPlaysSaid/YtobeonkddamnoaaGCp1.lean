/- Each function of the group Cp does what its plain function says, and changes nothing that was there; proved by walking its code. No condition. -/
import Derived.Test.YtobeonkddamnoaaQw
import Derived.Test.YtobeonkddamnoaaMCp
import Derived.Test.YtobeonkddamnoaaGCp0
namespace Go.Proofs.Ytobeonkddamnoaa.C
open Go.RowKit Go.Proofs.YtobeonkddamnoaaW.PrintWords Go.Proofs.YtobeonkddamnoaaW.PrintLast Go.Proofs.Ytobeonkddamnoaa.Q Go.Proofs.Ytobeonkddamnoaa.M
set_option linter.unusedVariables false
set_option linter.unusedSimpArgs false
set_option maxHeartbeats 30000000 in
set_option maxRecDepth 100000 in
theorem chain_Push_1.calls (a00 : Int) (a01 : Int) (a02 : Int) (a03 : Int) (a04 : Int) (l00 : List Int) (a05 : Int) (a06 : Int) (a07 : Int) (a08 : Int) (a09 : Int) (a10 : Int) (g00 : Nat) (g01 : Nat) (g02 : Nat) (A00 : Option Addr) (m00 : Nat) (n00 : Nat) (g03 : Nat) (r : Int × List Int) (w : World)   (HS : Aside0 (Sep (fps [b8 g00 g01, b7 g01 g02 a06 a07 a08 a09, b6 g02 A00 m00 n00 a05, r5 A00 m00 n00 l00, b9 g03 a10]) w [b8 g00 g01, b7 g01 g02 a06 a07 a08 a09, b6 g02 A00 m00 n00 a05, r5 A00 m00 n00 l00, b9 g03 a10] w)) (H : Aside0 (chain_Push_1.f a00 a01 a02 a03 a04 l00 a05 a06 a07 a08 a09 a10 = some r)) :
    Calls Try.prog 90 #[.agg #[.int .i64 a00, .int .i64 a01, .int .i64 a02], .int .i64 a03, .int .i64 a04, .pointer (some ⟨g00, 0, none⟩), .pointer (some ⟨g03, 0, none⟩)] w fun e w' => e = .returned (.tuple #[]) ∧ Sep (fps [b8 g00 g01, b7 g01 g02 a06 a07 a08 a09, b6 g02 A00 m00 n00 a05, r5 A00 m00 n00 l00, b9 g03 a10]) w [b8 g00 g01, b7 g01 g02 a06 a07 a08 a09, b6 g02 A00 m00 n00 r.1, r5 A00 m00 n00 r.2, b9 g03 a10] w' := by
  generalize (fps [b8 g00 g01, b7 g01 g02 a06 a07 a08 a09, b6 g02 A00 m00 n00 a05, r5 A00 m00 n00 l00, b9 g03 a10]) = FF at HS ⊢
  obtain rfl := (row_len (HS.out.at3)).symm
  unfold chain_Push_1.f at H
  go_enter Try.func90, Try.ntmps90
  go_wp2_with (first | ((with_reducible refine gate_dst (N := 5) rfl ?_); refine box_on ?hg (N := 5) ?hd (cs := #[.int .i64 a00, .int .i64 a01, .int .i64 a02]) (t := 134) ?hr ?_; (case hd => rfl); (case hg => rfl); (case hr => first | (go_simp; done) | (go_simp; rfl)); intro g04 hg w00 hbox hb; replace HS : Aside0 (Sep FF w [b8 g00 g01, b7 g01 g02 a06 a07 a08 a09, b6 g02 A00 l00.length n00 a05, r5 A00 l00.length n00 l00, b9 g03 a10, b10 g04 a00 a01 a02] w00) := ⟨HS.out.box hg hbox hb⟩; clear hg hbox hb))
  refine start_ (n := 8) (S := (fun w' => w'.cell? ⟨g00, 0, none⟩ = some (.pointer (some ⟨g01, 0, none⟩)) ∧ w'.cell? ⟨g03, 0, none⟩ = some (.int .i64 a10) ∧ w'.cell? ⟨g04, 0, none⟩ = some (.int .i64 a00))) (ds := []) #[false, false, false, false, false, false, false, false] (by kernel_rfl) rfl rfl (⟨blk_cellv ((HS.out.drew).at0) 0 rfl, blk_cellv ((HS.out.drew).at4) 0 rfl, blk_cellv ((HS.out.drew).at5) 0 rfl⟩) (fun hHeld => ?_)
  have HS_ := Aside0.mk HS.out.drew
  clear HS
  generalize World.drew _ = w01 at HS_ hHeld ⊢
  have HS := HS_
  clear HS_
  refine pure_ (i := 3) (N := some 11) (v := ?_) (a' := ?_) #[false, false, false, true, false, false, false, false] rfl rfl (by kernel_rfl) (fun _ _ _ h => h) (Or.inl ⟨by rfl, ?_⟩) ?_ ?_
  rotate_left
  ·intro w'
   go_simp
   with_reducible rfl
  rotate_left
  ·simp only [Act.put, List.setIfInBounds_toArray, List.set_cons_zero, List.set_cons_succ, i64_w, i32_w]
   rfl
  refine take_ (i := 0) (N := some 8) (v := ?_) (a' := ?_) #[true, false, false, true, false, false, false, false] rfl rfl (by kernel_rfl) (fun _ _ _ h => h) (Or.inl ⟨by rfl, ?_⟩) hHeld ?_ ?_
  rotate_left
  ·rintro w' hS'
   obtain ⟨s0, s1, s2⟩ := hS'
   go_simp
   with_reducible rfl
  rotate_left
  ·simp only [Act.put, List.setIfInBounds_toArray, List.set_cons_zero, List.set_cons_succ, i64_w, i32_w]
   rfl
  refine take_ (i := 1) (N := some 9) (v := ?_) (a' := ?_) #[true, true, false, true, false, false, false, false] rfl rfl (by kernel_rfl) (fun _ _ _ h => h) (Or.inl ⟨by rfl, ?_⟩) hHeld ?_ ?_
  rotate_left
  ·rintro w' hS'
   obtain ⟨s0, s1, s2⟩ := hS'
   go_simp
   with_reducible rfl
  rotate_left
  ·simp only [Act.put, List.setIfInBounds_toArray, List.set_cons_zero, List.set_cons_succ, i64_w, i32_w]
   rfl
  refine take_ (i := 2) (N := some 10) (v := ?_) (a' := ?_) #[true, true, true, true, false, false, false, false] rfl rfl (by kernel_rfl) (fun _ _ _ h => h) (Or.inl ⟨by rfl, ?_⟩) hHeld ?_ ?_
  rotate_left
  ·rintro w' hS'
   obtain ⟨s0, s1, s2⟩ := hS'
   go_simp
   with_reducible rfl
  rotate_left
  ·simp only [Act.put, List.setIfInBounds_toArray, List.set_cons_zero, List.set_cons_succ, i64_w, i32_w]
   rfl
  refine take_ (i := 4) (N := some 12) (v := ?_) (a' := ?_) #[true, true, true, true, true, false, false, false] rfl rfl (by kernel_rfl) (fun _ _ _ h => h) (Or.inl ⟨by rfl, ?_⟩) hHeld ?_ ?_
  rotate_left
  ·rintro w' hS'
   obtain ⟨s0, s1, s2⟩ := hS'
   go_simp
   with_reducible rfl
  rotate_left
  ·simp only [Act.put, List.setIfInBounds_toArray, List.set_cons_zero, List.set_cons_succ, i64_w, i32_w]
   rfl
  refine one_ (i := 5) (N := some 13) #[true, true, true, true, true, true, false, false] rfl rfl (by kernel_rfl) (by decide) (fun K hK => ?_)
  replace HS : Aside0 (Sep FF w [b7 g01 g02 a06 a07 a08 a09, b6 g02 A00 l00.length n00 a05, r5 A00 l00.length n00 l00, b8 g00 g01, b9 g03 a10, b10 g04 a00 a01 a02] w01) := ⟨(((HS.out).front 3 (by simp)).front 3 (by simp)).front 3 (by simp)⟩
  obtain ⟨t00, HA00, H⟩ := bind_some H
  refine goes_ Try.func36 (by kernel_rfl) rfl #[.pointer (some ⟨g01, 0, none⟩), .int .i64 a00] (by rfl) rfl rfl (by (try simp only [List.map_toArray, List.map_cons, List.map_nil]); first | done | rfl) ?_
  refine (ground_Ground_Reg.calls l00 a05 a06 a07 a08 a09 a00 g01 g02 A00 l00.length n00 t00 _ ⟨HS.out.begin⟩ HA00).mono ?_
  rintro e_ w02 ⟨rfl, hS⟩
  replace HS : Aside0 (Sep FF w [b7 g01 g02 a06 a07 a08 a09, b6 g02 A00 l00.length n00 t00.2, r5 A00 l00.length n00 l00, b8 g00 g01, b9 g03 a10, b10 g04 a00 a01 a02] w02) := ⟨HS.out.call hS⟩
  clear hS
  refine ⟨_, rfl, ?_⟩
  refine hK.out _ _ (⟨blk_cellv (HS.out.at3) 0 rfl, blk_cellv (HS.out.at4) 0 rfl, blk_cellv (HS.out.at5) 0 rfl⟩) (fun hHeld => ?_)
  clear hK K
  refine norm_ (a' := ?_) ?_ ?_
  rotate_left
  ·show Act.put _ (some 13) _ = _
   simp only [Act.put, List.setIfInBounds_toArray, List.set_cons_zero, List.set_cons_succ, i64_w, i32_w]
   rfl
  refine pure_ (i := 6) (N := some 14) (v := ?_) (a' := ?_) #[true, true, true, true, true, true, true, false] rfl rfl (by kernel_rfl) (fun _ _ _ h => h) (Or.inl ⟨by rfl, ?_⟩) ?_ ?_
  rotate_left
  ·intro w'
   go_simp
   with_reducible rfl
  rotate_left
  ·simp only [Act.put, List.setIfInBounds_toArray, List.set_cons_zero, List.set_cons_succ, i64_w, i32_w]
   rfl
  refine one_ (i := 7) (N := some 15) #[true, true, true, true, true, true, true, true] rfl rfl (by kernel_rfl) (by decide) (fun K hK => ?_)
  obtain ⟨t01, HA01, H⟩ := bind_some H
  refine goes_ Try.func46 (by kernel_rfl) rfl #[.pointer (some ⟨g01, 0, none⟩), .int .i64 a10, .int .i64 5, .int .u32 ((t00.1) % 4294967296)] (by rfl) rfl rfl (by (try simp only [List.map_toArray, List.map_cons, List.map_nil]); first | done | rfl) ?_
  refine (ground_Ground_SetWord.calls l00 t00.2 a06 a07 a08 a09 a10 5 ((t00.1) % 4294967296) g01 g02 A00 l00.length n00 t01 _ ⟨HS.out.begin⟩ HA01).mono ?_
  rintro e_ w03 ⟨rfl, hS⟩
  replace HS : Aside0 (Sep FF w [b7 g01 g02 a06 a07 a08 a09, b6 g02 A00 l00.length n00 t01.2.1, r5 A00 l00.length n00 t01.2.2, b8 g00 g01, b9 g03 a10, b10 g04 a00 a01 a02] w03) := ⟨HS.out.call hS⟩
  clear hS
  refine ⟨_, rfl, ?_⟩
  refine hK.out _ _ (⟨blk_cellv (HS.out.at3) 0 rfl, blk_cellv (HS.out.at4) 0 rfl, blk_cellv (HS.out.at5) 0 rfl⟩) (fun hHeld => ?_)
  clear hK K
  refine norm_ (a' := ?_) ?_ ?_
  rotate_left
  ·show Act.put _ (some 15) _ = _
   simp only [Act.put, List.setIfInBounds_toArray, List.set_cons_zero, List.set_cons_succ, i64_w, i32_w]
   rfl
  refine done_ (by kernel_rfl) ?_
  have hc00 : w03.cell? ⟨g00, 0, none⟩ = some (.pointer (some ⟨g01, 0, none⟩)) := blk_cellv (HS.out.at3) 0 rfl
  have hc01 : w03.cell? ⟨g04, 0, none⟩ = some (.int .i64 a00) := blk_cellv (HS.out.at5) 0 rfl
  go_wp2_with fail
  clear hc00 hc01
  obtain ⟨t02, HA02, H⟩ := bind_some H
  refine (ground_Ground_SetReg.calls t01.2.2 t01.2.1 a06 a07 a08 a09 a00 a03 g01 g02 A00 l00.length n00 t02 _ ⟨HS.out.begin⟩ HA02).mono ?_
  rintro e_ w04 ⟨rfl, hS⟩
  replace HS : Aside0 (Sep FF w [b7 g01 g02 a06 a07 a08 a09, b6 g02 A00 l00.length n00 t02.2.1, r5 A00 l00.length n00 t02.2.2, b8 g00 g01, b9 g03 a10, b10 g04 a00 a01 a02] w04) := ⟨HS.out.call hS⟩
  clear hS
  by_cases c00 : a04 = 0
  ·replace H := if_yes c00 H
   have c00b0 : (a04 == 0) = true := beq_iff_eq.mpr c00
   have c00b1 : (a04 != 0) = false := bne_eq_false_iff_eq.mpr c00
   clear c00
   have hc02 : w04.cell? ⟨g00, 0, none⟩ = some (.pointer (some ⟨g01, 0, none⟩)) := blk_cellv (HS.out.at3) 0 rfl
   have hc03 : w04.cell? ⟨g04, 1, none⟩ = some (.int .i64 a01) := blk_cellv (HS.out.at5) 1 rfl
   go_wp2_with fail
   clear hc02 hc03
   obtain ⟨t03, HA03, H⟩ := bind_some H
   refine (ground_Ground_SetReg.calls t02.2.2 t02.2.1 a06 a07 a08 a09 a01 a03 g01 g02 A00 l00.length n00 t03 _ ⟨HS.out.begin⟩ HA03).mono ?_
   rintro e_ w05 ⟨rfl, hS⟩
   replace HS : Aside0 (Sep FF w [b7 g01 g02 a06 a07 a08 a09, b6 g02 A00 l00.length n00 t03.2.1, r5 A00 l00.length n00 t03.2.2, b8 g00 g01, b9 g03 a10, b10 g04 a00 a01 a02] w05) := ⟨HS.out.call hS⟩
   clear hS
   replace HS : Aside0 (Sep FF w [b7 g01 g02 a06 a07 a08 a09, b6 g02 A00 l00.length n00 t03.2.1, r5 A00 l00.length n00 t03.2.2, b8 g00 g01, b9 g03 a10] w05) := ⟨HS.out.sub (.cons_cons _ (.cons_cons _ (.cons_cons _ (.cons_cons _ (.cons_cons _ (.cons _ .slnil))))))⟩
   go_wp2_with fail
   first | go_end0 | refine bodyPost_ret (results_none rfl _ _ _) rfl ?_
   rw [← some_eq H]
   exact ⟨rfl, ((((((HS.out).front 4 (by simp)).front 3 (by simp)).front 3 (by simp)).front 3 (by simp)).front 4 (by simp)).keep (l := [b8 g00 g01, b7 g01 g02 a06 a07 a08 a09, b6 g02 A00 l00.length n00 t03.2.1, r5 A00 l00.length n00 t03.2.2, b9 g03 a10]) (rest := [])⟩
  ·replace H := if_no c00 H
   have c00b0 : (a04 == 0) = false := beq_eq_false_iff_ne.mpr c00
   have c00b1 : (a04 != 0) = true := bne_iff_ne.mpr c00
   clear c00
   go_wp2_with fail
   first | go_end0 | refine bodyPost_ret (results_none rfl _ _ _) rfl ?_
   rw [← some_eq H]
   exact ⟨rfl, ((((((HS.out).front 4 (by simp)).front 3 (by simp)).front 3 (by simp)).front 3 (by simp)).front 4 (by simp)).keep (l := [b8 g00 g01, b7 g01 g02 a06 a07 a08 a09, b6 g02 A00 l00.length n00 t02.2.1, r5 A00 l00.length n00 t02.2.2, b9 g03 a10]) (rest := [b10 g04 a00 a01 a02])⟩

set_option maxHeartbeats 30000000 in
set_option maxRecDepth 100000 in
theorem chain_put_F90.calls (l00 : List Int) (a00 : Int) (a01 : Int) (a02 : Int) (a03 : Int) (a04 : Int) (a05 : Int) (a06 : Int) (a07 : Int) (g00 : Nat) (g01 : Nat) (A00 : Option Addr) (m00 : Nat) (n00 : Nat) (g02 : Nat) (g03 : Nat) (r : Bool × Int × List Int) (w : World)   (HS : Aside0 (Sep (fps [b7 g00 g01 a01 a02 a03 a04, b6 g01 A00 m00 n00 a00, r5 A00 m00 n00 l00, b8 g02 g00, b9 g03 a07]) w [b7 g00 g01 a01 a02 a03 a04, b6 g01 A00 m00 n00 a00, r5 A00 m00 n00 l00, b8 g02 g00, b9 g03 a07] w)) (H : Aside0 (chain_put_F90.f l00 a00 a01 a02 a03 a04 a05 a06 a07 = some r)) :
    Calls Try.prog 88 #[.pointer (some ⟨g00, 0, none⟩), .int .i64 a05, .int .i64 a06, .func (.func 90) #[] #[.pointer (some ⟨g02, 0, none⟩), .pointer (some ⟨g03, 0, none⟩)]] w fun e w' => e = .returned (.bool r.1) ∧ Sep (fps [b7 g00 g01 a01 a02 a03 a04, b6 g01 A00 m00 n00 a00, r5 A00 m00 n00 l00, b8 g02 g00, b9 g03 a07]) w [b7 g00 g01 a01 a02 a03 a04, b6 g01 A00 m00 n00 r.2.1, r5 A00 m00 n00 r.2.2, b8 g02 g00, b9 g03 a07] w' := by
  generalize (fps [b7 g00 g01 a01 a02 a03 a04, b6 g01 A00 m00 n00 a00, r5 A00 m00 n00 l00, b8 g02 g00, b9 g03 a07]) = FF at HS ⊢
  obtain rfl := (row_len (HS.out.at2)).symm
  unfold chain_put_F90.f at H
  go_enter Try.func88, Try.ntmps88
  go_wp2_with fail
  obtain ⟨t00, HA00, H⟩ := bind_some H
  refine (chain_of.calls l00 a00 a01 a02 a03 a04 a05 g00 g01 A00 l00.length n00 t00 _ ⟨HS.out.begin⟩ HA00).mono ?_
  rintro e_ w00 ⟨rfl, hS⟩
  replace HS : Aside0 (Sep FF w [b7 g00 g01 a01 a02 a03 a04, b6 g01 A00 l00.length n00 a00, r5 A00 l00.length n00 l00, b8 g02 g00, b9 g03 a07] w00) := ⟨HS.out.call hS⟩
  clear hS
  by_cases c00 : t00.2.2.2 = true
  ·replace H := if_yes c00 H
   have c00b0 : t00.2.2.2 = true := c00
   have c00b1 : (!t00.2.2.2) = false := by rw [c00b0]; rfl
   try rw [c00b1]
   clear c00
   by_cases c01 : a06 < 0
   ·replace H := if_yes c01 H
    have c01b0 : decide (a06 < 0) = true := decide_eq_true c01
    clear c01
    go_wp2_with (first | ((with_reducible refine gate_dst (N := 9) rfl ?_); refine box_on ?hg (N := 9) ?hd (cs := #[.int .i64 0, .int .i64 0, .int .i64 0]) (t := 134) ?hr ?_; (case hd => rfl); (case hg => rfl); (case hr => first | (go_simp; done) | (go_simp; rfl)); intro g04 hg w01 hbox hb; replace HS : Aside0 (Sep FF w [b7 g00 g01 a01 a02 a03 a04, b6 g01 A00 l00.length n00 a00, r5 A00 l00.length n00 l00, b8 g02 g00, b9 g03 a07, b10 g04 0 0 0] w01) := ⟨HS.out.box hg hbox hb⟩; clear hg hbox hb; have hc00 : w01.cell? ⟨g04, 0, none⟩ = some (.int .i64 0) := blk_cellv (HS.out.at5) 0 rfl; have hz00 : w01.frozen? ⟨g04, 0, none⟩ = false := blk_fz (HS.out.at5) 0; have hc01 : w01.cell? ⟨g04, 1, none⟩ = some (.int .i64 0) := blk_cellv (HS.out.at5) 1 rfl; have hz01 : w01.frozen? ⟨g04, 1, none⟩ = false := blk_fz (HS.out.at5) 1; have hc02 : w01.cell? ⟨g04, 2, none⟩ = some (.int .i64 0) := blk_cellv (HS.out.at5) 2 rfl; have hz02 : w01.frozen? ⟨g04, 2, none⟩ = false := blk_fz (HS.out.at5) 2) | ((with_reducible refine gate_store (t := 134) (p := 9) rfl ?_); refine store_event (w1 := (World.setCell (World.setCell (World.setCell w01 ⟨g04, 0, none⟩ (.int .i64 t00.1)) ⟨g04, 1, none⟩ (.int .i64 t00.2.1)) ⟨g04, 2, none⟩ (.int .i64 t00.2.2.1))) rfl (t := 134) (p := 9) rfl rfl ?hr ?_; (case hr => first | (go_simp; done) | (go_simp; rfl)); intro w02 hst; clear hc00 hz00 hc01 hz01 hc02 hz02; replace HS : Aside0 (Sep FF w [b7 g00 g01 a01 a02 a03 a04, b6 g01 A00 l00.length n00 a00, r5 A00 l00.length n00 l00, b8 g02 g00, b9 g03 a07, b10 g04 t00.1 t00.2.1 t00.2.2.1] w02) := ⟨by rw [hst]; exact HS.out.setAll (l1 := [b7 g00 g01 a01 a02 a03 a04, b6 g01 A00 l00.length n00 a00, r5 A00 l00.length n00 l00, b8 g02 g00, b9 g03 a07]) (l2 := []) [.int .i64 t00.1, .int .i64 t00.2.1, .int .i64 t00.2.2.1] rfl⟩; clear hst; replace HS : Aside0 (Sep FF w [b7 g00 g01 a01 a02 a03 a04, b6 g01 A00 l00.length n00 a00, r5 A00 l00.length n00 l00, b8 g02 g00, b9 g03 a07] w02) := ⟨HS.out.sub (.cons_cons _ (.cons_cons _ (.cons_cons _ (.cons_cons _ (.cons_cons _ (.cons _ .slnil))))))⟩))
    go_ret
    rw [← some_eq H]
    exact ⟨(by first | rfl | (simp [IntKind.wrap_u32]; done)), HS.out⟩
   ·replace H := if_no c01 H
    have c01b0 : decide (a06 < 0) = false := decide_eq_false c01
    clear c01
    go_wp2_with (first | ((with_reducible refine gate_dst (N := 9) rfl ?_); refine box_on ?hg (N := 9) ?hd (cs := #[.int .i64 0, .int .i64 0, .int .i64 0]) (t := 134) ?hr ?_; (case hd => rfl); (case hg => rfl); (case hr => first | (go_simp; done) | (go_simp; rfl)); intro g04 hg w01 hbox hb; replace HS : Aside0 (Sep FF w [b7 g00 g01 a01 a02 a03 a04, b6 g01 A00 l00.length n00 a00, r5 A00 l00.length n00 l00, b8 g02 g00, b9 g03 a07, b10 g04 0 0 0] w01) := ⟨HS.out.box hg hbox hb⟩; clear hg hbox hb; have hc00 : w01.cell? ⟨g04, 0, none⟩ = some (.int .i64 0) := blk_cellv (HS.out.at5) 0 rfl; have hz00 : w01.frozen? ⟨g04, 0, none⟩ = false := blk_fz (HS.out.at5) 0; have hc01 : w01.cell? ⟨g04, 1, none⟩ = some (.int .i64 0) := blk_cellv (HS.out.at5) 1 rfl; have hz01 : w01.frozen? ⟨g04, 1, none⟩ = false := blk_fz (HS.out.at5) 1; have hc02 : w01.cell? ⟨g04, 2, none⟩ = some (.int .i64 0) := blk_cellv (HS.out.at5) 2 rfl; have hz02 : w01.frozen? ⟨g04, 2, none⟩ = false := blk_fz (HS.out.at5) 2) | ((with_reducible refine gate_store (t := 134) (p := 9) rfl ?_); refine store_event (w1 := (World.setCell (World.setCell (World.setCell w01 ⟨g04, 0, none⟩ (.int .i64 t00.1)) ⟨g04, 1, none⟩ (.int .i64 t00.2.1)) ⟨g04, 2, none⟩ (.int .i64 t00.2.2.1))) rfl (t := 134) (p := 9) rfl rfl ?hr ?_; (case hr => first | (go_simp; done) | (go_simp; rfl)); intro w02 hst; clear hc00 hz00 hc01 hz01 hc02 hz02; replace HS : Aside0 (Sep FF w [b7 g00 g01 a01 a02 a03 a04, b6 g01 A00 l00.length n00 a00, r5 A00 l00.length n00 l00, b8 g02 g00, b9 g03 a07, b10 g04 t00.1 t00.2.1 t00.2.2.1] w02) := ⟨by rw [hst]; exact HS.out.setAll (l1 := [b7 g00 g01 a01 a02 a03 a04, b6 g01 A00 l00.length n00 a00, r5 A00 l00.length n00 l00, b8 g02 g00, b9 g03 a07]) (l2 := []) [.int .i64 t00.1, .int .i64 t00.2.1, .int .i64 t00.2.2.1] rfl⟩; clear hst))
    obtain ⟨t01, HA01, H⟩ := bind_some H
    refine (ground_Ground_Conf.calls l00 a00 a01 a02 a03 a04 g00 g01 A00 l00.length n00 t01 _ ⟨HS.out.begin⟩ HA01).mono ?_
    rintro e_ w03 ⟨rfl, hS⟩
    replace HS : Aside0 (Sep FF w [b7 g00 g01 a01 a02 a03 a04, b6 g01 A00 l00.length n00 a00, r5 A00 l00.length n00 l00, b8 g02 g00, b9 g03 a07, b10 g04 t00.1 t00.2.1 t00.2.2.1] w03) := ⟨HS.out.call hS⟩
    clear hS
    by_cases c02 : a06 ≥ t01.1
    ·replace H := if_yes c02 H
     have c02b0 : decide (t01.1 ≤ a06) = true := decide_eq_true c02
     clear c02
     have fl00 : ∀ w, (Instr.field 49 (.agg #[.int .i64 t01.1, .int .i64 t01.2.1, .int .i64 t01.2.2.1, .int .i64 t01.2.2.2]) 0).run Try.prog w = .ok (.int .i64 t01.1) w := fun _ => by kernel_rfl
     replace HS : Aside0 (Sep FF w [b7 g00 g01 a01 a02 a03 a04, b6 g01 A00 l00.length n00 a00, r5 A00 l00.length n00 l00, b8 g02 g00, b9 g03 a07] w03) := ⟨HS.out.sub (.cons_cons _ (.cons_cons _ (.cons_cons _ (.cons_cons _ (.cons_cons _ (.cons _ .slnil))))))⟩
     go_wp2_with fail
     clear fl00
     go_ret
     rw [← some_eq H]
     exact ⟨(by first | rfl | (simp [IntKind.wrap_u32]; done)), HS.out⟩
    ·replace H := if_no c02 H
     have c02b0 : decide (t01.1 ≤ a06) = false := decide_eq_false c02
     clear c02
     have fl00 : ∀ w, (Instr.field 49 (.agg #[.int .i64 t01.1, .int .i64 t01.2.1, .int .i64 t01.2.2.1, .int .i64 t01.2.2.2]) 0).run Try.prog w = .ok (.int .i64 t01.1) w := fun _ => by kernel_rfl
     have hc03 : w03.cell? ⟨g04, 2, none⟩ = some (.int .i64 t00.2.2.1) := blk_cellv (HS.out.at5) 2 rfl
     go_wp2_with fail
     clear fl00 hc03
     obtain ⟨t02, HA02, H⟩ := bind_some H
     refine (ground_Ground_Reg.calls l00 a00 a01 a02 a03 a04 t00.2.2.1 g00 g01 A00 l00.length n00 t02 _ ⟨HS.out.begin⟩ HA02).mono ?_
     rintro e_ w04 ⟨rfl, hS⟩
     replace HS : Aside0 (Sep FF w [b7 g00 g01 a01 a02 a03 a04, b6 g01 A00 l00.length n00 t02.2, r5 A00 l00.length n00 l00, b8 g02 g00, b9 g03 a07, b10 g04 t00.1 t00.2.1 t00.2.2.1] w04) := ⟨HS.out.call hS⟩
     clear hS
     have hc04 : w04.cell? ⟨g04, 0, none⟩ = some (.int .i64 t00.1) := blk_cellv (HS.out.at5) 0 rfl
     have hc05 : w04.cell? ⟨g04, 1, none⟩ = some (.int .i64 t00.2.1) := blk_cellv (HS.out.at5) 1 rfl
     have hc06 : w04.cell? ⟨g04, 2, none⟩ = some (.int .i64 t00.2.2.1) := blk_cellv (HS.out.at5) 2 rfl
     go_wp2_with fail
     clear hc04 hc05 hc06
     replace HS : Aside0 (Sep FF w [b8 g02 g00, b7 g00 g01 a01 a02 a03 a04, b6 g01 A00 l00.length n00 t02.2, r5 A00 l00.length n00 l00, b9 g03 a07, b10 g04 t00.1 t00.2.1 t00.2.2.1] w04) := ⟨(((((HS.out).front 4 (by simp)).front 3 (by simp)).front 3 (by simp)).front 3 (by simp)).front 4 (by simp)⟩
     obtain ⟨t03, HA03, H⟩ := bind_some H
     refine (chain_Push_1.calls t00.1 t00.2.1 t00.2.2.1 (wrap64 (a06 + 1)) t02.1 l00 t02.2 a01 a02 a03 a04 a07 g02 g00 g01 A00 l00.length n00 g03 t03 _ ⟨HS.out.begin⟩ HA03).mono ?_
     rintro e_ w05 ⟨rfl, hS⟩
     replace HS : Aside0 (Sep FF w [b8 g02 g00, b7 g00 g01 a01 a02 a03 a04, b6 g01 A00 l00.length n00 t03.1, r5 A00 l00.length n00 t03.2, b9 g03 a07, b10 g04 t00.1 t00.2.1 t00.2.2.1] w05) := ⟨HS.out.call hS⟩
     clear hS
     have hc07 : w05.cell? ⟨g04, 2, none⟩ = some (.int .i64 t00.2.2.1) := blk_cellv (HS.out.at5) 2 rfl
     go_wp2_with fail
     clear hc07
     replace HS : Aside0 (Sep FF w [b7 g00 g01 a01 a02 a03 a04, b6 g01 A00 l00.length n00 t03.1, r5 A00 l00.length n00 t03.2, b8 g02 g00, b9 g03 a07, b10 g04 t00.1 t00.2.1 t00.2.2.1] w05) := ⟨(((HS.out).front 3 (by simp)).front 3 (by simp)).front 3 (by simp)⟩
     obtain ⟨t04, HA04, H⟩ := bind_some H
     refine (ground_Ground_SetReg.calls t03.2 t03.1 a01 a02 a03 a04 t00.2.2.1 (wrap64 (t02.1 + 1)) g00 g01 A00 l00.length n00 t04 _ ⟨HS.out.begin⟩ HA04).mono ?_
     rintro e_ w06 ⟨rfl, hS⟩
     replace HS : Aside0 (Sep FF w [b7 g00 g01 a01 a02 a03 a04, b6 g01 A00 l00.length n00 t04.2.1, r5 A00 l00.length n00 t04.2.2, b8 g02 g00, b9 g03 a07, b10 g04 t00.1 t00.2.1 t00.2.2.1] w06) := ⟨HS.out.call hS⟩
     clear hS
     replace HS : Aside0 (Sep FF w [b7 g00 g01 a01 a02 a03 a04, b6 g01 A00 l00.length n00 t04.2.1, r5 A00 l00.length n00 t04.2.2, b8 g02 g00, b9 g03 a07] w06) := ⟨HS.out.sub (.cons_cons _ (.cons_cons _ (.cons_cons _ (.cons_cons _ (.cons_cons _ (.cons _ .slnil))))))⟩
     go_wp2_with fail
     go_ret
     rw [← some_eq H]
     exact ⟨(by first | rfl | (simp [IntKind.wrap_u32]; done)), HS.out⟩
  ·replace H := if_no c00 H
   have c00b0 : t00.2.2.2 = false := by simpa using c00
   have c00b1 : (!t00.2.2.2) = true := by rw [c00b0]; rfl
   try rw [c00b1]
   clear c00
   go_wp2_with (first | ((with_reducible refine gate_dst (N := 9) rfl ?_); refine box_on ?hg (N := 9) ?hd (cs := #[.int .i64 0, .int .i64 0, .int .i64 0]) (t := 134) ?hr ?_; (case hd => rfl); (case hg => rfl); (case hr => first | (go_simp; done) | (go_simp; rfl)); intro g04 hg w01 hbox hb; replace HS : Aside0 (Sep FF w [b7 g00 g01 a01 a02 a03 a04, b6 g01 A00 l00.length n00 a00, r5 A00 l00.length n00 l00, b8 g02 g00, b9 g03 a07, b10 g04 0 0 0] w01) := ⟨HS.out.box hg hbox hb⟩; clear hg hbox hb; have hc00 : w01.cell? ⟨g04, 0, none⟩ = some (.int .i64 0) := blk_cellv (HS.out.at5) 0 rfl; have hz00 : w01.frozen? ⟨g04, 0, none⟩ = false := blk_fz (HS.out.at5) 0; have hc01 : w01.cell? ⟨g04, 1, none⟩ = some (.int .i64 0) := blk_cellv (HS.out.at5) 1 rfl; have hz01 : w01.frozen? ⟨g04, 1, none⟩ = false := blk_fz (HS.out.at5) 1; have hc02 : w01.cell? ⟨g04, 2, none⟩ = some (.int .i64 0) := blk_cellv (HS.out.at5) 2 rfl; have hz02 : w01.frozen? ⟨g04, 2, none⟩ = false := blk_fz (HS.out.at5) 2) | ((with_reducible refine gate_store (t := 134) (p := 9) rfl ?_); refine store_event (w1 := (World.setCell (World.setCell (World.setCell w01 ⟨g04, 0, none⟩ (.int .i64 t00.1)) ⟨g04, 1, none⟩ (.int .i64 t00.2.1)) ⟨g04, 2, none⟩ (.int .i64 t00.2.2.1))) rfl (t := 134) (p := 9) rfl rfl ?hr ?_; (case hr => first | (go_simp; done) | (go_simp; rfl)); intro w02 hst; clear hc00 hz00 hc01 hz01 hc02 hz02; replace HS : Aside0 (Sep FF w [b7 g00 g01 a01 a02 a03 a04, b6 g01 A00 l00.length n00 a00, r5 A00 l00.length n00 l00, b8 g02 g00, b9 g03 a07, b10 g04 t00.1 t00.2.1 t00.2.2.1] w02) := ⟨by rw [hst]; exact HS.out.setAll (l1 := [b7 g00 g01 a01 a02 a03 a04, b6 g01 A00 l00.length n00 a00, r5 A00 l00.length n00 l00, b8 g02 g00, b9 g03 a07]) (l2 := []) [.int .i64 t00.1, .int .i64 t00.2.1, .int .i64 t00.2.2.1] rfl⟩; clear hst; replace HS : Aside0 (Sep FF w [b7 g00 g01 a01 a02 a03 a04, b6 g01 A00 l00.length n00 a00, r5 A00 l00.length n00 l00, b8 g02 g00, b9 g03 a07] w02) := ⟨HS.out.sub (.cons_cons _ (.cons_cons _ (.cons_cons _ (.cons_cons _ (.cons_cons _ (.cons _ .slnil))))))⟩))
   go_ret
   rw [← some_eq H]
   exact ⟨(by first | rfl | (simp [IntKind.wrap_u32]; done)), HS.out⟩

set_option maxHeartbeats 30000000 in
set_option maxRecDepth 100000 in
theorem chain_Push.calls (l00 : List Int) (a00 : Int) (a01 : Int) (a02 : Int) (a03 : Int) (a04 : Int) (a05 : Int) (a06 : Int) (g00 : Nat) (g01 : Nat) (A00 : Option Addr) (m00 : Nat) (n00 : Nat) (r : Bool × Int × List Int) (w : World)   (HS : Aside0 (Sep (fps [b7 g00 g01 a01 a02 a03 a04, b6 g01 A00 m00 n00 a00, r5 A00 m00 n00 l00]) w [b7 g00 g01 a01 a02 a03 a04, b6 g01 A00 m00 n00 a00, r5 A00 m00 n00 l00] w)) (H : Aside0 (chain_Push.f l00 a00 a01 a02 a03 a04 a05 a06 = some r)) :
    Calls Try.prog 53 #[.pointer (some ⟨g00, 0, none⟩), .int .i64 a05, .int .i64 a06] w fun e w' => e = .returned (.bool r.1) ∧ Sep (fps [b7 g00 g01 a01 a02 a03 a04, b6 g01 A00 m00 n00 a00, r5 A00 m00 n00 l00]) w [b7 g00 g01 a01 a02 a03 a04, b6 g01 A00 m00 n00 r.2.1, r5 A00 m00 n00 r.2.2] w' := by
  generalize (fps [b7 g00 g01 a01 a02 a03 a04, b6 g01 A00 m00 n00 a00, r5 A00 m00 n00 l00]) = FF at HS ⊢
  obtain rfl := (row_len (HS.out.at2)).symm
  unfold chain_Push.f at H
  go_enter Try.func53, Try.ntmps53
  go_wp2_with (first | ((with_reducible refine gate_dst (N := 3) rfl ?_); refine box_on ?hg (N := 3) ?hd (cs := #[.pointer (some ⟨g00, 0, none⟩)]) (t := 50) ?hr ?_; (case hd => rfl); (case hg => rfl); (case hr => first | (go_simp; done) | (go_simp; rfl)); intro g02 hg w00 hbox hb; replace HS : Aside0 (Sep FF w [b7 g00 g01 a01 a02 a03 a04, b6 g01 A00 l00.length n00 a00, r5 A00 l00.length n00 l00, b8 g02 g00] w00) := ⟨HS.out.box hg hbox hb⟩; clear hg hbox hb) | ((with_reducible refine gate_dst (N := 5) rfl ?_); refine box_on ?hg (N := 5) ?hd (cs := #[.int .i64 a06]) (t := 3) ?hr ?_; (case hd => rfl); (case hg => rfl); (case hr => first | (go_simp; done) | (go_simp; rfl)); intro g03 hg w01 hbox hb; replace HS : Aside0 (Sep FF w [b7 g00 g01 a01 a02 a03 a04, b6 g01 A00 l00.length n00 a00, r5 A00 l00.length n00 l00, b8 g02 g00, b9 g03 a06] w01) := ⟨HS.out.box hg hbox hb⟩; clear hg hbox hb; have hc00 : w01.cell? ⟨g02, 0, none⟩ = some (.pointer (some ⟨g00, 0, none⟩)) := blk_cellv (HS.out.at3) 0 rfl; have hc01 : w01.cell? ⟨g03, 0, none⟩ = some (.int .i64 a06) := blk_cellv (HS.out.at4) 0 rfl))
  clear hc00 hc01
  obtain ⟨t00, HA00, H⟩ := bind_some H
  refine (chain_put_F90.calls l00 a00 a01 a02 a03 a04 a05 a06 a06 g00 g01 A00 l00.length n00 g02 g03 t00 _ ⟨HS.out.begin⟩ HA00).mono ?_
  rintro e_ w02 ⟨rfl, hS⟩
  replace HS : Aside0 (Sep FF w [b7 g00 g01 a01 a02 a03 a04, b6 g01 A00 l00.length n00 t00.2.1, r5 A00 l00.length n00 t00.2.2, b8 g02 g00, b9 g03 a06] w02) := ⟨HS.out.call hS⟩
  clear hS
  replace HS : Aside0 (Sep FF w [b7 g00 g01 a01 a02 a03 a04, b6 g01 A00 l00.length n00 t00.2.1, r5 A00 l00.length n00 t00.2.2] w02) := ⟨HS.out.sub (.cons_cons _ (.cons_cons _ (.cons_cons _ (.cons _ (.cons _ .slnil)))))⟩
  go_wp2_with fail
  go_ret
  rw [← some_eq H]
  exact ⟨(by first | rfl | (simp [IntKind.wrap_u32]; done)), HS.out⟩

set_option maxHeartbeats 30000000 in
set_option maxRecDepth 100000 in
theorem store_Store_Peek.calls (l00 : List Int) (a00 : Int) (a01 : Int) (g00 : Nat) (A00 : Option Addr) (m00 : Nat) (n00 : Nat) (r : Int) (w : World)   (HS : Aside0 (Sep (fps [b6 g00 A00 m00 n00 a00, r5 A00 m00 n00 l00]) w [b6 g00 A00 m00 n00 a00, r5 A00 m00 n00 l00] w)) (H : Aside0 (store_Store_Peek.f l00 a00 a01 = some r)) :
    Calls Try.prog 20 #[.pointer (some ⟨g00, 0, none⟩), .int .i64 a01] w fun e w' => e = .returned (.int .u32 r) ∧ Sep (fps [b6 g00 A00 m00 n00 a00, r5 A00 m00 n00 l00]) w [b6 g00 A00 m00 n00 a00, r5 A00 m00 n00 l00] w' := by
  generalize (fps [b6 g00 A00 m00 n00 a00, r5 A00 m00 n00 l00]) = FF at HS ⊢
  obtain rfl := (row_len (HS.out.at1)).symm
  unfold store_Store_Peek.f at H
  go_enter Try.func20, Try.ntmps20
  go_wp2_with fail
  obtain ⟨t00, HA00, H⟩ := bind_some H
  refine (store_Store_has.calls l00 a00 a01 g00 A00 l00.length n00 t00 _ ⟨HS.out.begin⟩ HA00).mono ?_
  rintro e_ w00 ⟨rfl, hS⟩
  replace HS : Aside0 (Sep FF w [b6 g00 A00 l00.length n00 a00, r5 A00 l00.length n00 l00] w00) := ⟨HS.out.call hS⟩
  clear hS
  by_cases c00 : t00 = true
  ·replace H := if_yes c00 H
   have c00b0 : t00 = true := c00
   have c00b1 : (!t00) = false := by rw [c00b0]; rfl
   try rw [c00b1]
   clear c00
   by_cases c01 : 0 ≤ a01
   ·replace H := if_yes c01 H
    have c01b0 : decide (0 ≤ a01) = true := decide_eq_true c01
    have c01p : (0 ≤ a01) = True := eq_true c01
    clear c01
    by_cases c02 : a01 < (l00.length : Int)
    ·replace H := if_yes c02 H
     have c02b0 : decide (a01 < (l00.length : Int)) = true := decide_eq_true c02
     have c02p : (a01 < (l00.length : Int)) = True := eq_true c02
     clear c02
     have hc00 : w00.cell? ⟨g00, 0, none⟩ = some (.slice A00 l00.length n00) := blk_cellv (HS.out.at0) 0 rfl
     obtain ⟨g01, ea⟩ := row_at (HS.out.at1) (by have := (of_decide_eq_true c01b0); have := (of_decide_eq_true c02b0); omega); cases ea
     have hx00 := C_at_int (row_Ci (HS.out.at1)) a01 (of_decide_eq_true c01b0) (of_decide_eq_true c02b0)
     have hx01 : w00.cell? ⟨g01, (a01).toNat, none⟩ = some (.int .u32 (rd l00 a01)) := (row_get 0 (HS.out.at1) a01 (of_decide_eq_true c01b0) (of_decide_eq_true c02b0)).1
     go_wp2_with fail
     clear hc00 hx00 hx01
     go_ret
     rw [← some_eq H]
     exact ⟨(by first | rfl | (simp [IntKind.wrap_u32]; done)), HS.out⟩
    ·replace H := if_no c02 H
     have c02b0 : decide (a01 < (l00.length : Int)) = false := decide_eq_false c02
     clear c02
     exact (none_no H).elim
   ·replace H := if_no c01 H
    have c01b0 : decide (0 ≤ a01) = false := decide_eq_false c01
    clear c01
    exact (none_no H).elim
  ·replace H := if_no c00 H
   have c00b0 : t00 = false := by simpa using c00
   have c00b1 : (!t00) = true := by rw [c00b0]; rfl
   try rw [c00b1]
   clear c00
   go_wp2_with fail
   go_ret
   rw [← some_eq H]
   exact ⟨(by first | rfl | (simp [IntKind.wrap_u32]; done)), HS.out⟩

set_option maxHeartbeats 30000000 in
set_option maxRecDepth 100000 in
theorem ground_Ground_SeeReg.calls (l00 : List Int) (a00 : Int) (a01 : Int) (a02 : Int) (a03 : Int) (a04 : Int) (a05 : Int) (g00 : Nat) (g01 : Nat) (A00 : Option Addr) (m00 : Nat) (n00 : Nat) (r : Int) (w : World)   (HS : Aside0 (Sep (fps [b7 g00 g01 a01 a02 a03 a04, b6 g01 A00 m00 n00 a00, r5 A00 m00 n00 l00]) w [b7 g00 g01 a01 a02 a03 a04, b6 g01 A00 m00 n00 a00, r5 A00 m00 n00 l00] w)) (H : Aside0 (ground_Ground_SeeReg.f l00 a00 a01 a02 a03 a04 a05 = some r)) :
    Calls Try.prog 48 #[.pointer (some ⟨g00, 0, none⟩), .int .i64 a05] w fun e w' => e = .returned (.int .i64 r) ∧ Sep (fps [b7 g00 g01 a01 a02 a03 a04, b6 g01 A00 m00 n00 a00, r5 A00 m00 n00 l00]) w [b7 g00 g01 a01 a02 a03 a04, b6 g01 A00 m00 n00 a00, r5 A00 m00 n00 l00] w' := by
  generalize (fps [b7 g00 g01 a01 a02 a03 a04, b6 g01 A00 m00 n00 a00, r5 A00 m00 n00 l00]) = FF at HS ⊢
  obtain rfl := (row_len (HS.out.at2)).symm
  unfold ground_Ground_SeeReg.f at H
  go_enter Try.func48, Try.ntmps48
  go_wp2_with fail
  obtain ⟨t00, HA00, H⟩ := bind_some H
  refine (ground_Ground_all.calls l00 a00 a01 a02 a03 a04 g00 g01 A00 l00.length n00 t00 _ ⟨HS.out.begin⟩ HA00).mono ?_
  rintro e_ w00 ⟨rfl, hS⟩
  replace HS : Aside0 (Sep FF w [b7 g00 g01 a01 a02 a03 a04, b6 g01 A00 l00.length n00 a00, r5 A00 l00.length n00 l00] w00) := ⟨HS.out.call hS⟩
  clear hS
  go_wp2_with fail
  obtain ⟨t01, HA01, H⟩ := bind_some H
  refine (ground_reg.calls a05 t01 _ ⟨Sep.start _⟩ HA01).mono ?_
  rintro e_ w01 ⟨rfl, hS⟩
  replace HS : Aside0 (Sep FF w [b7 g00 g01 a01 a02 a03 a04, b6 g01 A00 l00.length n00 a00, r5 A00 l00.length n00 l00] w01) := ⟨HS.out.call hS⟩
  clear hS
  go_wp2_with fail
  replace HS : Aside0 (Sep FF w [b6 g01 A00 l00.length n00 a00, r5 A00 l00.length n00 l00, b7 g00 g01 a01 a02 a03 a04] w01) := ⟨((HS.out).front 2 (by simp)).front 2 (by simp)⟩
  obtain ⟨t02, HA02, H⟩ := bind_some H
  refine (store_Store_Peek.calls l00 a00 t01 g01 A00 l00.length n00 t02 _ ⟨HS.out.begin⟩ HA02).mono ?_
  rintro e_ w02 ⟨rfl, hS⟩
  replace HS : Aside0 (Sep FF w [b6 g01 A00 l00.length n00 a00, r5 A00 l00.length n00 l00, b7 g00 g01 a01 a02 a03 a04] w02) := ⟨HS.out.call hS⟩
  clear hS
  go_wp2_with fail
  go_ret
  rw [← some_eq H]
  exact ⟨(by first | rfl | (simp [IntKind.wrap_u32]; done)), ((((HS.out).front 1 (by simp)).front 1 (by simp)).front 2 (by simp)).keep (l := [b7 g00 g01 a01 a02 a03 a04, b6 g01 A00 l00.length n00 a00, r5 A00 l00.length n00 l00]) (rest := [])⟩

set_option maxHeartbeats 30000000 in
set_option maxRecDepth 100000 in
theorem ground_Ground_SeeWord.calls (l00 : List Int) (a00 : Int) (a01 : Int) (a02 : Int) (a03 : Int) (a04 : Int) (a05 : Int) (a06 : Int) (g00 : Nat) (g01 : Nat) (A00 : Option Addr) (m00 : Nat) (n00 : Nat) (r : Int) (w : World)   (HS : Aside0 (Sep (fps [b7 g00 g01 a01 a02 a03 a04, b6 g01 A00 m00 n00 a00, r5 A00 m00 n00 l00]) w [b7 g00 g01 a01 a02 a03 a04, b6 g01 A00 m00 n00 a00, r5 A00 m00 n00 l00] w)) (H : Aside0 (ground_Ground_SeeWord.f l00 a00 a01 a02 a03 a04 a05 a06 = some r)) :
    Calls Try.prog 50 #[.pointer (some ⟨g00, 0, none⟩), .int .i64 a05, .int .i64 a06] w fun e w' => e = .returned (.int .u32 r) ∧ Sep (fps [b7 g00 g01 a01 a02 a03 a04, b6 g01 A00 m00 n00 a00, r5 A00 m00 n00 l00]) w [b7 g00 g01 a01 a02 a03 a04, b6 g01 A00 m00 n00 a00, r5 A00 m00 n00 l00] w' := by
  generalize (fps [b7 g00 g01 a01 a02 a03 a04, b6 g01 A00 m00 n00 a00, r5 A00 m00 n00 l00]) = FF at HS ⊢
  obtain rfl := (row_len (HS.out.at2)).symm
  unfold ground_Ground_SeeWord.f at H
  go_enter Try.func50, Try.ntmps50
  go_wp2_with fail
  obtain ⟨t00, HA00, H⟩ := bind_some H
  refine (ground_Ground_all.calls l00 a00 a01 a02 a03 a04 g00 g01 A00 l00.length n00 t00 _ ⟨HS.out.begin⟩ HA00).mono ?_
  rintro e_ w00 ⟨rfl, hS⟩
  replace HS : Aside0 (Sep FF w [b7 g00 g01 a01 a02 a03 a04, b6 g01 A00 l00.length n00 a00, r5 A00 l00.length n00 l00] w00) := ⟨HS.out.call hS⟩
  clear hS
  go_wp2_with fail
  obtain ⟨t01, HA01, H⟩ := bind_some H
  refine (ground_Ground_word.calls l00 a00 a01 a02 a03 a04 a05 a06 g00 g01 A00 l00.length n00 t01 _ ⟨HS.out.begin⟩ HA01).mono ?_
  rintro e_ w01 ⟨rfl, hS⟩
  replace HS : Aside0 (Sep FF w [b7 g00 g01 a01 a02 a03 a04, b6 g01 A00 l00.length n00 a00, r5 A00 l00.length n00 l00] w01) := ⟨HS.out.call hS⟩
  clear hS
  go_wp2_with fail
  replace HS : Aside0 (Sep FF w [b6 g01 A00 l00.length n00 a00, r5 A00 l00.length n00 l00, b7 g00 g01 a01 a02 a03 a04] w01) := ⟨((HS.out).front 2 (by simp)).front 2 (by simp)⟩
  obtain ⟨t02, HA02, H⟩ := bind_some H
  refine (store_Store_Peek.calls l00 a00 t01 g01 A00 l00.length n00 t02 _ ⟨HS.out.begin⟩ HA02).mono ?_
  rintro e_ w02 ⟨rfl, hS⟩
  replace HS : Aside0 (Sep FF w [b6 g01 A00 l00.length n00 a00, r5 A00 l00.length n00 l00, b7 g00 g01 a01 a02 a03 a04] w02) := ⟨HS.out.call hS⟩
  clear hS
  go_wp2_with fail
  go_ret
  rw [← some_eq H]
  exact ⟨(by first | rfl | (simp [IntKind.wrap_u32]; done)), ((((HS.out).front 1 (by simp)).front 1 (by simp)).front 2 (by simp)).keep (l := [b7 g00 g01 a01 a02 a03 a04, b6 g01 A00 l00.length n00 a00, r5 A00 l00.length n00 l00]) (rest := [])⟩

set_option maxHeartbeats 30000000 in
set_option maxRecDepth 100000 in
theorem chain_List.calls (k : Nat) (l00 : List Int) (a00 : Int) (a01 : Int) (a02 : Int) (a03 : Int) (a04 : Int) (a05 : Int) (g00 : Nat) (g01 : Nat) (A00 : Option Addr) (m00 : Nat) (n00 : Nat) (r : List Int) (w : World)   (HS : Aside0 (Sep (fps [b7 g00 g01 a01 a02 a03 a04, b6 g01 A00 m00 n00 a00, r5 A00 m00 n00 l00]) w [b7 g00 g01 a01 a02 a03 a04, b6 g01 A00 m00 n00 a00, r5 A00 m00 n00 l00] w)) (H : Aside0 (chain_List.f k l00 a00 a01 a02 a03 a04 a05 = some r)) :
    Calls Try.prog 56 #[.pointer (some ⟨g00, 0, none⟩), .int .i64 a05] w fun e w' => ∃ (A01 : Option Addr) (m01 : Nat) (n01 : Nat), e = .returned (.slice A01 m01 n01) ∧ Sep (fps [b7 g00 g01 a01 a02 a03 a04, b6 g01 A00 m00 n00 a00, r5 A00 m00 n00 l00]) w [b7 g00 g01 a01 a02 a03 a04, b6 g01 A00 m00 n00 a00, r5 A00 m00 n00 l00, r11 A01 m01 n01 r] w' := by
  generalize (fps [b7 g00 g01 a01 a02 a03 a04, b6 g01 A00 m00 n00 a00, r5 A00 m00 n00 l00]) = FF at HS ⊢
  obtain rfl := (row_len (HS.out.at2)).symm
  unfold chain_List.f at H
  go_enter Try.func56, Try.ntmps56
  go_wp2_with fail
  obtain ⟨t00, HA00, H⟩ := bind_some H
  refine (chain_of.calls l00 a00 a01 a02 a03 a04 a05 g00 g01 A00 l00.length n00 t00 _ ⟨HS.out.begin⟩ HA00).mono ?_
  rintro e_ w00 ⟨rfl, hS⟩
  replace HS : Aside0 (Sep FF w [b7 g00 g01 a01 a02 a03 a04, b6 g01 A00 l00.length n00 a00, r5 A00 l00.length n00 l00] w00) := ⟨HS.out.call hS⟩
  clear hS
  by_cases c00 : t00.2.2.2 = true
  ·replace H := if_yes c00 H
   have c00b0 : t00.2.2.2 = true := c00
   have c00b1 : (!t00.2.2.2) = false := by rw [c00b0]; rfl
   try rw [c00b1]
   clear c00
   go_wp2_with (first | ((with_reducible refine gate_dst (N := 5) rfl ?_); refine box_on ?hg (N := 5) ?hd (cs := #[.int .i64 0, .int .i64 0, .int .i64 0]) (t := 134) ?hr ?_; (case hd => rfl); (case hg => rfl); (case hr => first | (go_simp; done) | (go_simp; rfl)); intro g02 hg w01 hbox hb; replace HS : Aside0 (Sep FF w [b7 g00 g01 a01 a02 a03 a04, b6 g01 A00 l00.length n00 a00, r5 A00 l00.length n00 l00, b10 g02 0 0 0] w01) := ⟨HS.out.box hg hbox hb⟩; clear hg hbox hb; have hc00 : w01.cell? ⟨g02, 0, none⟩ = some (.int .i64 0) := blk_cellv (HS.out.at3) 0 rfl; have hz00 : w01.frozen? ⟨g02, 0, none⟩ = false := blk_fz (HS.out.at3) 0; have hc01 : w01.cell? ⟨g02, 1, none⟩ = some (.int .i64 0) := blk_cellv (HS.out.at3) 1 rfl; have hz01 : w01.frozen? ⟨g02, 1, none⟩ = false := blk_fz (HS.out.at3) 1; have hc02 : w01.cell? ⟨g02, 2, none⟩ = some (.int .i64 0) := blk_cellv (HS.out.at3) 2 rfl; have hz02 : w01.frozen? ⟨g02, 2, none⟩ = false := blk_fz (HS.out.at3) 2) | ((with_reducible refine gate_store (t := 134) (p := 5) rfl ?_); refine store_event (w1 := (World.setCell (World.setCell (World.setCell w01 ⟨g02, 0, none⟩ (.int .i64 t00.1)) ⟨g02, 1, none⟩ (.int .i64 t00.2.1)) ⟨g02, 2, none⟩ (.int .i64 t00.2.2.1))) rfl (t := 134) (p := 5) rfl rfl ?hr ?_; (case hr => first | (go_simp; done) | (go_simp; rfl)); intro w02 hst; clear hc00 hz00 hc01 hz01 hc02 hz02; replace HS : Aside0 (Sep FF w [b7 g00 g01 a01 a02 a03 a04, b6 g01 A00 l00.length n00 a00, r5 A00 l00.length n00 l00, b10 g02 t00.1 t00.2.1 t00.2.2.1] w02) := ⟨by rw [hst]; exact HS.out.setAll (l1 := [b7 g00 g01 a01 a02 a03 a04, b6 g01 A00 l00.length n00 a00, r5 A00 l00.length n00 l00]) (l2 := []) [.int .i64 t00.1, .int .i64 t00.2.1, .int .i64 t00.2.2.1] rfl⟩; clear hst; have hc03 : w02.cell? ⟨g02, 0, none⟩ = some (.int .i64 t00.1) := blk_cellv (HS.out.at3) 0 rfl))
   clear hc03
   obtain ⟨t01, HA01, H⟩ := bind_some H
   refine (ground_Ground_SeeReg.calls l00 a00 a01 a02 a03 a04 t00.1 g00 g01 A00 l00.length n00 t01 _ ⟨HS.out.begin⟩ HA01).mono ?_
   rintro e_ w03 ⟨rfl, hS⟩
   replace HS : Aside0 (Sep FF w [b7 g00 g01 a01 a02 a03 a04, b6 g01 A00 l00.length n00 a00, r5 A00 l00.length n00 l00, b10 g02 t00.1 t00.2.1 t00.2.2.1] w03) := ⟨HS.out.call hS⟩
   clear hS
   replace HS : Aside0 (Sep FF w [b7 g00 g01 a01 a02 a03 a04, b6 g01 A00 l00.length n00 a00, r5 A00 l00.length n00 l00] w03) := ⟨HS.out.sub (.cons_cons _ (.cons_cons _ (.cons_cons _ (.cons _ .slnil))))⟩
   go_wp2_with fail
   replace HS : Aside0 (Sep FF w [r11 none 0 0 [], b7 g00 g01 a01 a02 a03 a04, b6 g01 A00 l00.length n00 a00, r5 A00 l00.length n00 l00] w03) := ⟨HS.out.nilrow 3 (Value.int .i64)⟩
   obtain ⟨o00, AL00, H⟩ := bind_some H
   go_loopg [7, 8] k (fun kq v7 v8 wc => ∃ (x00 : Int) (x01 : List Int) (A02 : Option Addr) (m02 : Nat) (n02 : Nat), v7 = .slice A02 m02 n02 ∧ v8 = .int .i64 x00 ∧ Aside0 (chain_List.lo0 kq l00 a00 a01 a02 a03 a04 x00 x01 = some o00) ∧ Aside0 (Sep FF w [r11 A02 m02 n02 x01, b7 g00 g01 a01 a02 a03 a04, b6 g01 A00 l00.length n00 a00, r5 A00 l00.length n00 l00] wc))
   case atStart => exact ⟨(t01), (([] : List Int)), (none), (0), (0), (by first | rfl | (simp [IntKind.wrap_u32]; done)), (by first | rfl | (simp [IntKind.wrap_u32]; done)), AL00, ⟨HS.out⟩⟩
   case round =>
     clear AL00 HS
     obtain ⟨x00, x01, A02, m02, n02, rfl, rfl, AL00, HS⟩ := hrel
     obtain ⟨w04, rfl⟩ : ∃ x : World, x = wr := ⟨_, rfl⟩
     obtain rfl := (row_len (HS.out.at0)).symm
     cases gk with
     | zero => exact absurd AL00.out (by simp [chain_List.lo0])
     | succ k00 =>
       have AL0 := AL00.out
       rw [chain_List.lo0] at AL0
       clear AL00
       have AL00 := Aside0.mk AL0
       clear AL0
       by_cases c01 : x00 > 0
       ·replace AL00 := if_yes c01 AL00
        have c01b0 : decide (0 < x00) = true := decide_eq_true c01
        clear c01
        go_wp2_with fail
        replace HS : Aside0 (Sep FF w [b7 g00 g01 a01 a02 a03 a04, b6 g01 A00 l00.length n00 a00, r5 A00 l00.length n00 l00, r11 A02 x01.length n02 x01] w04) := ⟨(((HS.out).front 3 (by simp)).front 3 (by simp)).front 3 (by simp)⟩
        obtain ⟨t02, HA02, AL00⟩ := bind_some AL00
        refine (ground_Ground_Conf.calls l00 a00 a01 a02 a03 a04 g00 g01 A00 l00.length n00 t02 _ ⟨HS.out.begin⟩ HA02).mono ?_
        rintro e_ w05 ⟨rfl, hS⟩
        replace HS : Aside0 (Sep FF w [b7 g00 g01 a01 a02 a03 a04, b6 g01 A00 l00.length n00 a00, r5 A00 l00.length n00 l00, r11 A02 x01.length n02 x01] w05) := ⟨HS.out.call hS⟩
        clear hS
        by_cases c02 : (x01.length : Int) < t02.1
        ·replace AL00 := if_yes c02 AL00
         have c02b0 : decide ((x01.length : Int) < t02.1) = true := decide_eq_true c02
         clear c02
         by_cases c03 : x01.length < 17592186044416
         ·replace AL00 := if_yes c03 AL00
          have c03b0 : decide (x01.length < 17592186044416) = true := decide_eq_true c03
          clear c03
          obtain ⟨y00, HA03, AL00⟩ := bind_some AL00
          have fl00 : ∀ w, (Instr.field 49 (.agg #[.int .i64 t02.1, .int .i64 t02.2.1, .int .i64 t02.2.2.1, .int .i64 t02.2.2.2]) 0).run Try.prog w = .ok (.int .i64 t02.1) w := fun _ => by kernel_rfl
          go_wp2_with (first | ((with_reducible refine gate_dst (N := 39) rfl ?_); refine slice_on (n := 1) ?hg (N := 39) ?hd (cs := #[.int .i64 (wrap64 (x00 - 1))]) (t := 3) ?hr ?_; (case hd => rfl); (case hg => rfl); (case hr => first | (go_simp; done) | (go_simp; rfl)); intro g03 hg w06 hbox hb; clear fl00; replace HS : Aside0 (Sep FF w [b7 g00 g01 a01 a02 a03 a04, b6 g01 A00 l00.length n00 a00, r5 A00 l00.length n00 l00, r11 A02 x01.length n02 x01, b9 g03 (wrap64 (x00 - 1))] w06) := ⟨HS.out.box hg hbox hb⟩; clear hg hbox hb) | ((with_reducible refine gate_dst (N := 40) rfl ?_); refine append_event (l1 := [b7 g00 g01 a01 a02 a03 a04, b6 g01 A00 l00.length n00 a00, r5 A00 l00.length n00 l00]) (l2 := [b9 g03 (wrap64 (x00 - 1))]) rfl (.tmp 36) (.tmp 39) 78 3 (.int .i64 0) 8 rfl Try.underlying78 (by kernel_rfl) rfl (by decide) (Value.int .i64) (fun _ => rfl) (.slice A02 x01.length n02) (x01 : List Int) [wrap64 (x00 - 1)] ⟨g03, 0, none⟩ 1 rfl rfl (blk_news (xs := [wrap64 (x00 - 1)]) (HS.out.at4)) HS.out (by have := of_decide_eq_true c03b0; simp only [List.length_cons, List.length_nil]; omega) HA03 ?_; intro A03 n03 w07 HS1; replace HS : Aside0 (Sep FF w [b7 g00 g01 a01 a02 a03 a04, b6 g01 A00 l00.length n00 a00, r5 A00 l00.length n00 l00, r11 A03 y00.length n03 y00, b9 g03 (wrap64 (x00 - 1))] w07) := ⟨HS1⟩; clear HS1; replace HS : Aside0 (Sep FF w [b7 g00 g01 a01 a02 a03 a04, b6 g01 A00 l00.length n00 a00, r5 A00 l00.length n00 l00, r11 A03 y00.length n03 y00] w07) := ⟨HS.out.sub (.cons_cons _ (.cons_cons _ (.cons_cons _ (.cons_cons _ (.cons _ .slnil)))))⟩))
          obtain ⟨t03, HA04, AL00⟩ := bind_some AL00
          refine (ground_Ground_SeeWord.calls l00 a00 a01 a02 a03 a04 (wrap64 (x00 - 1)) 5 g00 g01 A00 l00.length n00 t03 _ ⟨HS.out.begin⟩ HA04).mono ?_
          rintro e_ w08 ⟨rfl, hS⟩
          replace HS : Aside0 (Sep FF w [b7 g00 g01 a01 a02 a03 a04, b6 g01 A00 l00.length n00 a00, r5 A00 l00.length n00 l00, r11 A03 y00.length n03 y00] w08) := ⟨HS.out.call hS⟩
          clear hS
          go_wp2_with fail
          go_roundg k00
          case measure => exact Nat.lt_succ_self _
          case rel => exact ⟨(wrap64 (t03)), (y00), (A03), (y00.length), (n03), (by first | rfl | (simp [IntKind.wrap_u32]; done)), (by first | rfl | (simp [IntKind.wrap_u32]; done)), Aside0.mk AL00.out, ⟨(((((HS.out).front 2 (by simp)).front 2 (by simp)).front 2 (by simp)).front 3 (by simp)).keep (l := [r11 A03 y00.length n03 y00, b7 g00 g01 a01 a02 a03 a04, b6 g01 A00 l00.length n00 a00, r5 A00 l00.length n00 l00]) (rest := [])⟩⟩
         ·replace AL00 := if_no c03 AL00
          have c03b0 : decide (x01.length < 17592186044416) = false := decide_eq_false c03
          clear c03
          exact (none_no AL00).elim
        ·replace AL00 := if_no c02 AL00
         have c02b0 : decide ((x01.length : Int) < t02.1) = false := decide_eq_false c02
         clear c02
         have ho := some_eq AL00
         subst ho
         clear AL00
         have fl00 : ∀ w, (Instr.field 49 (.agg #[.int .i64 t02.1, .int .i64 t02.2.1, .int .i64 t02.2.2.1, .int .i64 t02.2.2.2]) 0).run Try.prog w = .ok (.int .i64 t02.1) w := fun _ => by kernel_rfl
         go_wp2_with fail
         clear fl00
         go_ret
         rw [← some_eq H]
         exact ⟨A02, x01.length, n02, (by first | rfl | (simp [IntKind.wrap_u32]; done)), HS.out⟩
       ·replace AL00 := if_no c01 AL00
        have c01b0 : decide (0 < x00) = false := decide_eq_false c01
        clear c01
        have ho := some_eq AL00
        subst ho
        clear AL00
        go_wp2_with fail
        go_ret
        rw [← some_eq H]
        exact ⟨A02, x01.length, n02, (by first | rfl | (simp [IntKind.wrap_u32]; done)), ((((HS.out).front 3 (by simp)).front 3 (by simp)).front 3 (by simp)).keep (l := [b7 g00 g01 a01 a02 a03 a04, b6 g01 A00 l00.length n00 a00, r5 A00 l00.length n00 l00, r11 A02 x01.length n02 x01]) (rest := [])⟩
  ·replace H := if_no c00 H
   have c00b0 : t00.2.2.2 = false := by simpa using c00
   have c00b1 : (!t00.2.2.2) = true := by rw [c00b0]; rfl
   try rw [c00b1]
   clear c00
   go_wp2_with (first | ((with_reducible refine gate_dst (N := 5) rfl ?_); refine box_on ?hg (N := 5) ?hd (cs := #[.int .i64 0, .int .i64 0, .int .i64 0]) (t := 134) ?hr ?_; (case hd => rfl); (case hg => rfl); (case hr => first | (go_simp; done) | (go_simp; rfl)); intro g02 hg w01 hbox hb; replace HS : Aside0 (Sep FF w [b7 g00 g01 a01 a02 a03 a04, b6 g01 A00 l00.length n00 a00, r5 A00 l00.length n00 l00, b10 g02 0 0 0] w01) := ⟨HS.out.box hg hbox hb⟩; clear hg hbox hb; have hc00 : w01.cell? ⟨g02, 0, none⟩ = some (.int .i64 0) := blk_cellv (HS.out.at3) 0 rfl; have hz00 : w01.frozen? ⟨g02, 0, none⟩ = false := blk_fz (HS.out.at3) 0; have hc01 : w01.cell? ⟨g02, 1, none⟩ = some (.int .i64 0) := blk_cellv (HS.out.at3) 1 rfl; have hz01 : w01.frozen? ⟨g02, 1, none⟩ = false := blk_fz (HS.out.at3) 1; have hc02 : w01.cell? ⟨g02, 2, none⟩ = some (.int .i64 0) := blk_cellv (HS.out.at3) 2 rfl; have hz02 : w01.frozen? ⟨g02, 2, none⟩ = false := blk_fz (HS.out.at3) 2) | ((with_reducible refine gate_store (t := 134) (p := 5) rfl ?_); refine store_event (w1 := (World.setCell (World.setCell (World.setCell w01 ⟨g02, 0, none⟩ (.int .i64 t00.1)) ⟨g02, 1, none⟩ (.int .i64 t00.2.1)) ⟨g02, 2, none⟩ (.int .i64 t00.2.2.1))) rfl (t := 134) (p := 5) rfl rfl ?hr ?_; (case hr => first | (go_simp; done) | (go_simp; rfl)); intro w02 hst; clear hc00 hz00 hc01 hz01 hc02 hz02; replace HS : Aside0 (Sep FF w [b7 g00 g01 a01 a02 a03 a04, b6 g01 A00 l00.length n00 a00, r5 A00 l00.length n00 l00, b10 g02 t00.1 t00.2.1 t00.2.2.1] w02) := ⟨by rw [hst]; exact HS.out.setAll (l1 := [b7 g00 g01 a01 a02 a03 a04, b6 g01 A00 l00.length n00 a00, r5 A00 l00.length n00 l00]) (l2 := []) [.int .i64 t00.1, .int .i64 t00.2.1, .int .i64 t00.2.2.1] rfl⟩; clear hst; replace HS : Aside0 (Sep FF w [b7 g00 g01 a01 a02 a03 a04, b6 g01 A00 l00.length n00 a00, r5 A00 l00.length n00 l00] w02) := ⟨HS.out.sub (.cons_cons _ (.cons_cons _ (.cons_cons _ (.cons _ .slnil))))⟩))
   replace HS : Aside0 (Sep FF w [r11 none 0 0 [], b7 g00 g01 a01 a02 a03 a04, b6 g01 A00 l00.length n00 a00, r5 A00 l00.length n00 l00] w02) := ⟨HS.out.nilrow 3 (Value.int .i64)⟩
   go_ret
   rw [← some_eq H]
   exact ⟨none, 0, 0, (by first | rfl | (simp [IntKind.wrap_u32]; done)), ((((HS.out).front 3 (by simp)).front 3 (by simp)).front 3 (by simp)).keep (l := [b7 g00 g01 a01 a02 a03 a04, b6 g01 A00 l00.length n00 a00, r5 A00 l00.length n00 l00, r11 none 0 0 []]) (rest := [])⟩

set_option maxHeartbeats 30000000 in
set_option maxRecDepth 100000 in
theorem quitrentref01_Ints.calls (k : Nat) (l00 : List Int) (l01 : List Int) (A00 : Option Addr) (n00 : Nat) (A01 : Option Addr) (n01 : Nat) (r : Bool) (w : World) (HR00 : Aside0 (Rd (Kd.int .i64) (fps []) w A00 l00.length l00)) (HR01 : Aside0 (Rd (Kd.int .i64) (fps []) w A01 l01.length l01))  (HS : Aside0 (Sep (fps []) w [] w)) (H : Aside0 (quitrentref01_Ints.f k l00 l01 = some r)) :
    Calls Try.prog 68 #[.slice A00 l00.length n00, .slice A01 l01.length n01] w fun e w' => e = .returned (.bool r) ∧ Sep (fps []) w [] w' := by
  unfold quitrentref01_Ints.f at H
  go_enter Try.func68, Try.ntmps68
  by_cases c00 : (l00.length : Int) = (l01.length : Int)
  ·replace H := if_yes c00 H
   have c00b0 : ((l00.length : Int) == (l01.length : Int)) = true := beq_iff_eq.mpr c00
   have c00b1 : ((l00.length : Int) != (l01.length : Int)) = false := bne_eq_false_iff_eq.mpr c00
   clear c00
   go_wp2_with fail
   obtain ⟨o00, AL00, H⟩ := bind_some H
   go_loopg [5] k (fun kq v5 wc => ∃ (x00 : Int), v5 = .int .i64 x00 ∧ Aside0 (quitrentref01_Ints.lo0 kq l00 l01 x00 = some o00) ∧ Aside0 (Sep (fps []) w [] wc))
   case atStart => exact ⟨(0), (by first | rfl | (simp [IntKind.wrap_u32]; done)), AL00, ⟨HS.out⟩⟩
   case round =>
     clear AL00 HS
     obtain ⟨x00, rfl, AL00, HS⟩ := hrel
     obtain ⟨w00, rfl⟩ : ∃ x : World, x = wr := ⟨_, rfl⟩
     cases gk with
     | zero => exact absurd AL00.out (by simp [quitrentref01_Ints.lo0])
     | succ k00 =>
       have AL0 := AL00.out
       rw [quitrentref01_Ints.lo0] at AL0
       clear AL00
       have AL00 := Aside0.mk AL0
       clear AL0
       by_cases c01 : x00 < (l00.length : Int)
       ·replace AL00 := if_yes c01 AL00
        have c01b0 : decide (x00 < (l00.length : Int)) = true := decide_eq_true c01
        clear c01
        go_wp2_with fail
        refine start_ (n := 9) (S := (fun w' => Kd.C (Kd.int .i64) w' A00 l00.length l00 ∧ Kd.C (Kd.int .i64) w' A01 l01.length l01)) (ds := []) #[false, false, false, false, false, false, false, false, false] (by kernel_rfl) rfl rfl (⟨Rd.read (fun _ _ _ _ h => h) HR00.out (HS.out.drew).fr, Rd.read (fun _ _ _ _ h => h) HR01.out (HS.out.drew).fr⟩) (fun hHeld => ?_)
        have HS_ := Aside0.mk HS.out.drew
        clear HS
        generalize World.drew _ = w01 at HS_ hHeld ⊢
        have HS := HS_
        clear HS_
        refine pure_ (i := 0) (N := some 17) (v := ?_) (a' := ?_) #[true, false, false, false, false, false, false, false, false] rfl rfl (by kernel_rfl) (fun _ _ _ h => h) (Or.inl ⟨by rfl, ?_⟩) ?_ ?_
        rotate_left
        ·intro w'
         go_simp
         with_reducible rfl
        rotate_left
        ·simp only [Act.put, List.setIfInBounds_toArray, List.set_cons_zero, List.set_cons_succ, i64_w, i32_w]
         rfl
        refine pure_ (i := 1) (N := some 18) (v := ?_) (a' := ?_) #[true, true, false, false, false, false, false, false, false] rfl rfl (by kernel_rfl) (fun _ _ _ h => h) (Or.inl ⟨by rfl, ?_⟩) ?_ ?_
        rotate_left
        ·intro w'
         go_simp
         with_reducible rfl
        rotate_left
        ·simp only [Act.put, List.setIfInBounds_toArray, List.set_cons_zero, List.set_cons_succ, i64_w, i32_w]
         rfl
        by_cases c02 : 0 ≤ x00
        ·replace AL00 := if_yes c02 AL00
         have c02b0 : decide (0 ≤ x00) = true := decide_eq_true c02
         have c02p : (0 ≤ x00) = True := eq_true c02
         clear c02
         have ip00 : (x00 < (l00.length : Int)) = True := eq_true (of_decide_eq_true c01b0)
         obtain ⟨ad00, ea, _⟩ := Kd.at_int (Rd.read (fun _ _ _ _ h => h) HR00.out HS.out.fr) x00 (of_decide_eq_true c02b0) (of_decide_eq_true c01b0)
         cases ea
         refine pure_ (i := 2) (N := some 19) (v := ?_) (a' := ?_) #[true, true, true, false, false, false, false, false, false] rfl rfl (by kernel_rfl) (fun _ _ _ h => h) (Or.inl ⟨by rfl, ?_⟩) ?_ ?_
         rotate_left
         ·intro w'
          go_simp
          with_reducible rfl
         rotate_left
         ·simp only [Act.put, List.setIfInBounds_toArray, List.set_cons_zero, List.set_cons_succ, i64_w, i32_w]
          rfl
         refine pure_ (i := 4) (N := some 21) (v := ?_) (a' := ?_) #[true, true, true, false, true, false, false, false, false] rfl rfl (by kernel_rfl) (fun _ _ _ h => h) (Or.inl ⟨by rfl, ?_⟩) ?_ ?_
         rotate_left
         ·intro w'
          go_simp
          with_reducible rfl
         rotate_left
         ·simp only [Act.put, List.setIfInBounds_toArray, List.set_cons_zero, List.set_cons_succ, i64_w, i32_w]
          rfl
         refine pure_ (i := 5) (N := some 22) (v := ?_) (a' := ?_) #[true, true, true, false, true, true, false, false, false] rfl rfl (by kernel_rfl) (fun _ _ _ h => h) (Or.inl ⟨by rfl, ?_⟩) ?_ ?_
         rotate_left
         ·intro w'
          go_simp
          with_reducible rfl
         rotate_left
         ·simp only [Act.put, List.setIfInBounds_toArray, List.set_cons_zero, List.set_cons_succ, i64_w, i32_w]
          rfl
         by_cases c03 : x00 < (l01.length : Int)
         ·replace AL00 := if_yes c03 AL00
          have c03b0 : decide (x00 < (l01.length : Int)) = true := decide_eq_true c03
          have c03p : (x00 < (l01.length : Int)) = True := eq_true c03
          clear c03
          obtain ⟨ad01, ea, _⟩ := Kd.at_int (Rd.read (fun _ _ _ _ h => h) HR01.out HS.out.fr) x00 (of_decide_eq_true c02b0) (of_decide_eq_true c03b0)
          cases ea
          refine pure_ (i := 6) (N := some 23) (v := ?_) (a' := ?_) #[true, true, true, false, true, true, true, false, false] rfl rfl (by kernel_rfl) (fun _ _ _ h => h) (Or.inl ⟨by rfl, ?_⟩) ?_ ?_
          rotate_left
          ·intro w'
           go_simp
           with_reducible rfl
          rotate_left
          ·simp only [Act.put, List.setIfInBounds_toArray, List.set_cons_zero, List.set_cons_succ, i64_w, i32_w]
           rfl
          refine take_ (i := 3) (N := some 20) (v := ?_) (a' := ?_) #[true, true, true, true, true, true, true, false, false] rfl rfl (by kernel_rfl) (fun _ _ _ h => h) (Or.inl ⟨by rfl, ?_⟩) hHeld ?_ ?_
          rotate_left
          ·rintro w' hS'
           obtain ⟨s0, s1⟩ := hS'
           have hx := C_at_int s0 x00 (of_decide_eq_true c02b0) (of_decide_eq_true c01b0)
           go_simp
           with_reducible rfl
          rotate_left
          ·simp only [Act.put, List.setIfInBounds_toArray, List.set_cons_zero, List.set_cons_succ, i64_w, i32_w]
           rfl
          refine take_ (i := 7) (N := some 24) (v := ?_) (a' := ?_) #[true, true, true, true, true, true, true, true, false] rfl rfl (by kernel_rfl) (fun _ _ _ h => h) (Or.inl ⟨by rfl, ?_⟩) hHeld ?_ ?_
          rotate_left
          ·rintro w' hS'
           obtain ⟨s0, s1⟩ := hS'
           have hx := C_at_int s1 x00 (of_decide_eq_true c02b0) (of_decide_eq_true c03b0)
           go_simp
           with_reducible rfl
          rotate_left
          ·simp only [Act.put, List.setIfInBounds_toArray, List.set_cons_zero, List.set_cons_succ, i64_w, i32_w]
           rfl
          refine pure_ (i := 8) (N := some 25) (v := ?_) (a' := ?_) #[true, true, true, true, true, true, true, true, true] rfl rfl (by kernel_rfl) (fun _ _ _ h => h) (Or.inl ⟨by rfl, ?_⟩) ?_ ?_
          rotate_left
          ·intro w'
           go_simp
           with_reducible rfl
          rotate_left
          ·simp only [Act.put, List.setIfInBounds_toArray, List.set_cons_zero, List.set_cons_succ, i64_w, i32_w]
           rfl
          refine done_ (by kernel_rfl) ?_
          by_cases c04 : (rd l00 x00) = (rd l01 x00)
          ·replace AL00 := if_yes c04 AL00
           have c04b0 : ((rd l00 x00) == (rd l01 x00)) = true := beq_iff_eq.mpr c04
           have c04b1 : ((rd l00 x00) != (rd l01 x00)) = false := bne_eq_false_iff_eq.mpr c04
           clear c04
           go_wp2_with fail
           go_roundg k00
           case measure => exact Nat.lt_succ_self _
           case rel => exact ⟨(wrap64 (x00 + 1)), (by first | rfl | (simp [IntKind.wrap_u32]; done)), Aside0.mk AL00.out, ⟨HS.out⟩⟩
          ·replace AL00 := if_no c04 AL00
           have c04b0 : ((rd l00 x00) == (rd l01 x00)) = false := beq_eq_false_iff_ne.mpr c04
           have c04b1 : ((rd l00 x00) != (rd l01 x00)) = true := bne_iff_ne.mpr c04
           clear c04
           go_wp2_with fail
           have ho := some_eq AL00
           subst ho
           have H := lp_ret H
           go_ret
           rw [← some_eq H]
           exact ⟨(by first | rfl | (simp [IntKind.wrap_u32]; done)), HS.out⟩
         ·replace AL00 := if_no c03 AL00
          have c03b0 : decide (x00 < (l01.length : Int)) = false := decide_eq_false c03
          clear c03
          exact (none_no AL00).elim
        ·replace AL00 := if_no c02 AL00
         have c02b0 : decide (0 ≤ x00) = false := decide_eq_false c02
         clear c02
         exact (none_no AL00).elim
       ·replace AL00 := if_no c01 AL00
        have c01b0 : decide (x00 < (l00.length : Int)) = false := decide_eq_false c01
        clear c01
        have ho := some_eq AL00
        subst ho
        clear AL00
        have H := lp_out H
        go_wp2_with fail
        go_ret
        rw [← some_eq H]
        exact ⟨(by first | rfl | (simp [IntKind.wrap_u32]; done)), HS.out⟩
  ·replace H := if_no c00 H
   have c00b0 : ((l00.length : Int) == (l01.length : Int)) = false := beq_eq_false_iff_ne.mpr c00
   have c00b1 : ((l00.length : Int) != (l01.length : Int)) = true := bne_iff_ne.mpr c00
   clear c00
   go_wp2_with fail
   go_ret
   rw [← some_eq H]
   exact ⟨(by first | rfl | (simp [IntKind.wrap_u32]; done)), HS.out⟩

set_option maxHeartbeats 30000000 in
set_option maxRecDepth 100000 in
theorem quitrentlaw08_begun.calls (k : Nat)  (r : Bool) (w : World)   (HS : Aside0 (Sep (fps []) w [] w)) (H : Aside0 (quitrentlaw08_begun.f k = some r)) :
    Calls Try.prog 51 #[] w fun e w' => e = .returned (.bool r) ∧ Sep (fps []) w [] w' := by
  unfold quitrentlaw08_begun.f at H
  go_enter Try.func51, Try.ntmps51
  go_wp2_with fail
  obtain ⟨t00, HA00, H⟩ := bind_some H
  rcases t00 with t01 | (t02 | t03)
  ·have H := sum_l H
   refine (ground_New.calls _ 9 16 1 1 (.inl t01) _ ⟨Sep.start _⟩ HA00).mono ?_
   rintro e_ w00 ⟨rfl, hS⟩
   replace HS : Aside0 (Sep (fps []) w [] w00) := ⟨HS.out.call hS⟩
   clear hS
   go_wp2_with fail
   go_ret
   rw [← some_eq H]
   exact ⟨(by first | rfl | (simp [IntKind.wrap_u32]; done)), HS.out⟩
  ·have H := sum_r H
   have H := sum_l H
   refine (ground_New.calls _ 9 16 1 1 (.inr (.inl t02)) _ ⟨Sep.start _⟩ HA00).mono ?_
   rintro e_ w01 ⟨g00, rfl, g01, A00, m00, n00, hS⟩
   replace HS : Aside0 (Sep (fps []) w [b7 g00 g01 t02.1 t02.2.1 t02.2.2.1 t02.2.2.2.1, b6 g01 A00 m00 n00 0, r5 A00 m00 n00 t02.2.2.2.2] w01) := ⟨HS.out.call hS⟩
   clear hS
   obtain rfl := (row_len (HS.out.at2)).symm
   go_wp2_with fail
   obtain ⟨t04, HA01, H⟩ := bind_some H
   refine (chain_Add.calls t02.2.2.2.2 0 t02.1 t02.2.1 t02.2.2.1 t02.2.2.2.1 1 4 g00 g01 A00 ((t02.2.2.2.2).length) n00 t04 _ ⟨HS.out.begin⟩ HA01).mono ?_
   rintro e_ w02 ⟨rfl, hS⟩
   replace HS : Aside0 (Sep (fps []) w [b7 g00 g01 t02.1 t02.2.1 t02.2.2.1 t02.2.2.2.1, b6 g01 A00 ((t02.2.2.2.2).length) n00 t04.2.1, r5 A00 ((t02.2.2.2.2).length) n00 t04.2.2] w02) := ⟨HS.out.call hS⟩
   clear hS
   by_cases c00 : t04.1 = true
   ·replace H := if_yes c00 H
    have c00b0 : t04.1 = true := c00
    have c00b1 : (!t04.1) = false := by rw [c00b0]; rfl
    try rw [c00b1]
    clear c00
    go_wp2_with fail
    obtain ⟨t05, HA02, H⟩ := bind_some H
    refine (chain_Add.calls t04.2.2 t04.2.1 t02.1 t02.2.1 t02.2.2.1 t02.2.2.2.1 1 2 g00 g01 A00 ((t02.2.2.2.2).length) n00 t05 _ ⟨HS.out.begin⟩ HA02).mono ?_
    rintro e_ w03 ⟨rfl, hS⟩
    replace HS : Aside0 (Sep (fps []) w [b7 g00 g01 t02.1 t02.2.1 t02.2.2.1 t02.2.2.2.1, b6 g01 A00 ((t02.2.2.2.2).length) n00 t05.2.1, r5 A00 ((t02.2.2.2.2).length) n00 t05.2.2] w03) := ⟨HS.out.call hS⟩
    clear hS
    by_cases c01 : t05.1 = true
    ·replace H := if_yes c01 H
     have c01b0 : t05.1 = true := c01
     have c01b1 : (!t05.1) = false := by rw [c01b0]; rfl
     try rw [c01b1]
     clear c01
     go_wp2_with fail
     obtain ⟨t06, HA03, H⟩ := bind_some H
     refine (chain_Push.calls t05.2.2 t05.2.1 t02.1 t02.2.1 t02.2.2.1 t02.2.2.2.1 1 7 g00 g01 A00 ((t02.2.2.2.2).length) n00 t06 _ ⟨HS.out.begin⟩ HA03).mono ?_
     rintro e_ w04 ⟨rfl, hS⟩
     replace HS : Aside0 (Sep (fps []) w [b7 g00 g01 t02.1 t02.2.1 t02.2.2.1 t02.2.2.2.1, b6 g01 A00 ((t02.2.2.2.2).length) n00 t06.2.1, r5 A00 ((t02.2.2.2.2).length) n00 t06.2.2] w04) := ⟨HS.out.call hS⟩
     clear hS
     by_cases c02 : t06.1 = true
     ·replace H := if_yes c02 H
      have c02b0 : t06.1 = true := c02
      have c02b1 : (!t06.1) = false := by rw [c02b0]; rfl
      try rw [c02b1]
      clear c02
      go_wp2_with fail
      obtain ⟨t07, HA04, H⟩ := bind_some H
      refine (chain_List.calls _ t06.2.2 t06.2.1 t02.1 t02.2.1 t02.2.2.1 t02.2.2.2.1 1 g00 g01 A00 ((t02.2.2.2.2).length) n00 t07 _ ⟨HS.out.begin⟩ HA04).mono ?_
      rintro e_ w05 ⟨A01, m01, n01, rfl, hS⟩
      replace HS : Aside0 (Sep (fps []) w [b7 g00 g01 t02.1 t02.2.1 t02.2.2.1 t02.2.2.2.1, b6 g01 A00 ((t02.2.2.2.2).length) n00 t06.2.1, r5 A00 ((t02.2.2.2.2).length) n00 t06.2.2, r11 A01 m01 n01 t07] w05) := ⟨HS.out.call hS⟩
      clear hS
      obtain rfl := (row_len (HS.out.at3)).symm
      go_wp2_with (first | ((with_reducible refine gate_dst (N := 27) rfl ?_); refine slice_on (n := 3) ?hg (N := 27) ?hd (cs := #[.int .i64 7, .int .i64 4, .int .i64 2]) (t := 3) ?hr ?_; (case hd => rfl); (case hg => rfl); (case hr => first | (go_simp; done) | (go_simp; rfl)); intro g02 hg w06 hbox hb; replace HS : Aside0 (Sep (fps []) w [b7 g00 g01 t02.1 t02.2.1 t02.2.2.1 t02.2.2.2.1, b6 g01 A00 ((t02.2.2.2.2).length) n00 t06.2.1, r5 A00 ((t02.2.2.2.2).length) n00 t06.2.2, r11 A01 t07.length n01 t07, b4 g02 7 4 2] w06) := ⟨HS.out.box hg hbox hb⟩; clear hg hbox hb))
      obtain ⟨t08, HA05, H⟩ := bind_some H
      refine (quitrentref01_Ints.calls _ t07 [7, 4, 2] A01 n01 (some ⟨g02, 0, none⟩) 3 t08 _ ⟨Rd.ownI (l := []) HS.out 3 rfl⟩ ⟨Rd.lit (l := []) (xs := [7, 4, 2]) HS.out 4 rfl (by simp)⟩ ⟨Sep.start _⟩ HA05).mono ?_
      rintro e_ w07 ⟨rfl, hS⟩
      replace HS : Aside0 (Sep (fps []) w [b7 g00 g01 t02.1 t02.2.1 t02.2.2.1 t02.2.2.2.1, b6 g01 A00 ((t02.2.2.2.2).length) n00 t06.2.1, r5 A00 ((t02.2.2.2.2).length) n00 t06.2.2, r11 A01 t07.length n01 t07, b4 g02 7 4 2] w07) := ⟨HS.out.call hS⟩
      clear hS
      by_cases c03 : t08 = true
      ·replace H := if_yes c03 H
       have c03b0 : t08 = true := c03
       have c03b1 : (!t08) = false := by rw [c03b0]; rfl
       clear c03
       go_wp2_with fail
       obtain ⟨t09, HA06, H⟩ := bind_some H
       refine (ground_Ground_SeeReg.calls t06.2.2 t06.2.1 t02.1 t02.2.1 t02.2.2.1 t02.2.2.2.1 3 g00 g01 A00 ((t02.2.2.2.2).length) n00 t09 _ ⟨HS.out.begin⟩ HA06).mono ?_
       rintro e_ w08 ⟨rfl, hS⟩
       replace HS : Aside0 (Sep (fps []) w [b7 g00 g01 t02.1 t02.2.1 t02.2.2.1 t02.2.2.2.1, b6 g01 A00 ((t02.2.2.2.2).length) n00 t06.2.1, r5 A00 ((t02.2.2.2.2).length) n00 t06.2.2, r11 A01 t07.length n01 t07, b4 g02 7 4 2] w08) := ⟨HS.out.call hS⟩
       clear hS
       by_cases c04 : t09 = 8
       ·replace H := if_yes c04 H
        have c04b0 : (t09 == 8) = true := beq_iff_eq.mpr c04
        have c04b1 : (t09 != 8) = false := bne_eq_false_iff_eq.mpr c04
        clear c04
        go_wp2_with fail
        obtain ⟨t10, HA07, H⟩ := bind_some H
        refine (ground_Ground_SeeReg.calls t06.2.2 t06.2.1 t02.1 t02.2.1 t02.2.2.1 t02.2.2.2.1 4 g00 g01 A00 ((t02.2.2.2.2).length) n00 t10 _ ⟨HS.out.begin⟩ HA07).mono ?_
        rintro e_ w09 ⟨rfl, hS⟩
        replace HS : Aside0 (Sep (fps []) w [b7 g00 g01 t02.1 t02.2.1 t02.2.2.1 t02.2.2.2.1, b6 g01 A00 ((t02.2.2.2.2).length) n00 t06.2.1, r5 A00 ((t02.2.2.2.2).length) n00 t06.2.2, r11 A01 t07.length n01 t07, b4 g02 7 4 2] w09) := ⟨HS.out.call hS⟩
        clear hS
        by_cases c05 : t10 = 3
        ·replace H := if_yes c05 H
         have c05b0 : (t10 == 3) = true := beq_iff_eq.mpr c05
         have c05b1 : (t10 != 3) = false := bne_eq_false_iff_eq.mpr c05
         clear c05
         go_wp2_with fail
         obtain ⟨t11, HA08, H⟩ := bind_some H
         refine (ground_Ground_SeeReg.calls t06.2.2 t06.2.1 t02.1 t02.2.1 t02.2.2.1 t02.2.2.2.1 5 g00 g01 A00 ((t02.2.2.2.2).length) n00 t11 _ ⟨HS.out.begin⟩ HA08).mono ?_
         rintro e_ w10 ⟨rfl, hS⟩
         replace HS : Aside0 (Sep (fps []) w [b7 g00 g01 t02.1 t02.2.1 t02.2.2.1 t02.2.2.2.1, b6 g01 A00 ((t02.2.2.2.2).length) n00 t06.2.1, r5 A00 ((t02.2.2.2.2).length) n00 t06.2.2, r11 A01 t07.length n01 t07, b4 g02 7 4 2] w10) := ⟨HS.out.call hS⟩
         clear hS
         replace HS : Aside0 (Sep (fps []) w [] w10) := ⟨HS.out.sub (.cons _ (.cons _ (.cons _ (.cons _ (.cons _ .slnil)))))⟩
         go_wp2_with fail
         go_ret
         rw [← some_eq H]
         exact ⟨(by first | rfl | (simp [IntKind.wrap_u32]; done)), HS.out⟩
        ·replace H := if_no c05 H
         have c05b0 : (t10 == 3) = false := beq_eq_false_iff_ne.mpr c05
         have c05b1 : (t10 != 3) = true := bne_iff_ne.mpr c05
         clear c05
         replace HS : Aside0 (Sep (fps []) w [] w09) := ⟨HS.out.sub (.cons _ (.cons _ (.cons _ (.cons _ (.cons _ .slnil)))))⟩
         go_wp2_with fail
         go_ret
         rw [← some_eq H]
         exact ⟨(by first | rfl | (simp [IntKind.wrap_u32]; done)), HS.out⟩
       ·replace H := if_no c04 H
        have c04b0 : (t09 == 8) = false := beq_eq_false_iff_ne.mpr c04
        have c04b1 : (t09 != 8) = true := bne_iff_ne.mpr c04
        clear c04
        replace HS : Aside0 (Sep (fps []) w [] w08) := ⟨HS.out.sub (.cons _ (.cons _ (.cons _ (.cons _ (.cons _ .slnil)))))⟩
        go_wp2_with fail
        go_ret
        rw [← some_eq H]
        exact ⟨(by first | rfl | (simp [IntKind.wrap_u32]; done)), HS.out⟩
      ·replace H := if_no c03 H
       have c03b0 : t08 = false := by simpa using c03
       have c03b1 : (!t08) = true := by rw [c03b0]; rfl
       clear c03
       replace HS : Aside0 (Sep (fps []) w [] w07) := ⟨HS.out.sub (.cons _ (.cons _ (.cons _ (.cons _ (.cons _ .slnil)))))⟩
       go_wp2_with fail
       go_ret
       rw [← some_eq H]
       exact ⟨(by first | rfl | (simp [IntKind.wrap_u32]; done)), HS.out⟩
     ·replace H := if_no c02 H
      have c02b0 : t06.1 = false := by simpa using c02
      have c02b1 : (!t06.1) = true := by rw [c02b0]; rfl
      try rw [c02b1]
      clear c02
      replace HS : Aside0 (Sep (fps []) w [] w04) := ⟨HS.out.sub (.cons _ (.cons _ (.cons _ .slnil)))⟩
      go_wp2_with fail
      go_ret
      rw [← some_eq H]
      exact ⟨(by first | rfl | (simp [IntKind.wrap_u32]; done)), HS.out⟩
    ·replace H := if_no c01 H
     have c01b0 : t05.1 = false := by simpa using c01
     have c01b1 : (!t05.1) = true := by rw [c01b0]; rfl
     try rw [c01b1]
     clear c01
     replace HS : Aside0 (Sep (fps []) w [] w03) := ⟨HS.out.sub (.cons _ (.cons _ (.cons _ .slnil)))⟩
     go_wp2_with fail
     go_ret
     rw [← some_eq H]
     exact ⟨(by first | rfl | (simp [IntKind.wrap_u32]; done)), HS.out⟩
   ·replace H := if_no c00 H
    have c00b0 : t04.1 = false := by simpa using c00
    have c00b1 : (!t04.1) = true := by rw [c00b0]; rfl
    try rw [c00b1]
    clear c00
    replace HS : Aside0 (Sep (fps []) w [] w02) := ⟨HS.out.sub (.cons _ (.cons _ (.cons _ .slnil)))⟩
    go_wp2_with fail
    go_ret
    rw [← some_eq H]
    exact ⟨(by first | rfl | (simp [IntKind.wrap_u32]; done)), HS.out⟩
  ·have H := sum_r H
   have H := sum_r H
   refine (ground_New.calls _ 9 16 1 1 (.inr (.inr t03)) _ ⟨Sep.start _⟩ HA00).mono ?_
   rintro e_ w11 ⟨rfl, hS⟩
   replace HS : Aside0 (Sep (fps []) w [] w11) := ⟨HS.out.call hS⟩
   clear hS
   by_cases c06 : t03 = 0
   ·replace H := if_yes c06 H
    have c06b0 : (t03 == 0) = true := beq_iff_eq.mpr c06
    have c06b1 : (t03 != 0) = false := bne_eq_false_iff_eq.mpr c06
    clear c06
    exact (none_no H).elim
   ·replace H := if_no c06 H
    have c06b0 : (t03 == 0) = false := beq_eq_false_iff_ne.mpr c06
    have c06b1 : (t03 != 0) = true := bne_iff_ne.mpr c06
    clear c06
    go_wp2_with fail
    go_ret
    rw [← some_eq H]
    exact ⟨(by first | rfl | (simp [IntKind.wrap_u32]; done)), HS.out⟩

set_option maxHeartbeats 30000000 in
set_option maxRecDepth 100000 in
theorem quitrentref08_Chains_Of.calls (l00 : List Int) (l01 : List Int) (a00 : Int) (g00 : Nat) (A00 : Option Addr) (m00 : Nat) (n00 : Nat) (A01 : Option Addr) (m01 : Nat) (n01 : Nat) (r : Unit ⊕ Unit) (w : World)   (HS : Aside0 (Sep (fps [b14 g00 A00 m00 n00 A01 m01 n01, r11 A00 m00 n00 l00, r11 A01 m01 n01 l01]) w [b14 g00 A00 m00 n00 A01 m01 n01, r11 A00 m00 n00 l00, r11 A01 m01 n01 l01] w)) (H : Aside0 (quitrentref08_Chains_Of.f l00 l01 a00 = some r)) :
    Calls Try.prog 92 #[.pointer (some ⟨g00, 0, none⟩), .int .i64 a00] w fun e w' => Sum.elim (fun (r : Unit) => e = .returned (.slice A00 m00 n00) ∧ Sep (fps [b14 g00 A00 m00 n00 A01 m01 n01, r11 A00 m00 n00 l00, r11 A01 m01 n01 l01]) w [b14 g00 A00 m00 n00 A01 m01 n01, r11 A00 m00 n00 l00, r11 A01 m01 n01 l01] w') (fun (r : Unit) => e = .returned (.slice A01 m01 n01) ∧ Sep (fps [b14 g00 A00 m00 n00 A01 m01 n01, r11 A00 m00 n00 l00, r11 A01 m01 n01 l01]) w [b14 g00 A00 m00 n00 A01 m01 n01, r11 A00 m00 n00 l00, r11 A01 m01 n01 l01] w') r := by
  generalize (fps [b14 g00 A00 m00 n00 A01 m01 n01, r11 A00 m00 n00 l00, r11 A01 m01 n01 l01]) = FF at HS ⊢
  obtain rfl := (row_len (HS.out.at1)).symm
  obtain rfl := (row_len (HS.out.at2)).symm
  unfold quitrentref08_Chains_Of.f at H
  go_enter Try.func92, Try.ntmps92
  by_cases c00 : a00 = 0
  ·replace H := if_yes c00 H
   have c00b0 : (a00 == 0) = true := beq_iff_eq.mpr c00
   have c00b1 : (a00 != 0) = false := bne_eq_false_iff_eq.mpr c00
   clear c00
   have hc00 : w.cell? ⟨g00, 0, none⟩ = some (.slice A00 l00.length n00) := blk_cellv (HS.out.at0) 0 rfl
   go_wp2_with fail
   clear hc00
   go_ret
   rw [← some_eq H]
   exact ⟨(by first | rfl | (simp [IntKind.wrap_u32]; done)), HS.out⟩
  ·replace H := if_no c00 H
   have c00b0 : (a00 == 0) = false := beq_eq_false_iff_ne.mpr c00
   have c00b1 : (a00 != 0) = true := bne_iff_ne.mpr c00
   clear c00
   have hc01 : w.cell? ⟨g00, 1, none⟩ = some (.slice A01 l01.length n01) := blk_cellv (HS.out.at0) 1 rfl
   go_wp2_with fail
   clear hc01
   go_ret
   rw [← some_eq H]
   exact ⟨(by first | rfl | (simp [IntKind.wrap_u32]; done)), HS.out⟩

set_option maxHeartbeats 30000000 in
set_option maxRecDepth 100000 in
theorem atomic_Uint64_Load.calls (l00 : List Int) (a00 : Int) (g00 : Nat) (A00 : Option Addr) (m00 : Nat) (n00 : Nat) (r : Int) (w : World)   (HS : Aside0 (Sep (fps [b6 g00 A00 m00 n00 a00, r5 A00 m00 n00 l00]) w [b6 g00 A00 m00 n00 a00, r5 A00 m00 n00 l00] w)) (H : Aside0 (atomic_Uint64_Load.f l00 a00 = some r)) :
    Calls Try.prog 70 #[.pointer (some ⟨g00, 1, none⟩)] w fun e w' => e = .returned (.int .u64 r) ∧ Sep (fps [b6 g00 A00 m00 n00 a00, r5 A00 m00 n00 l00]) w [b6 g00 A00 m00 n00 a00, r5 A00 m00 n00 l00] w' := by
  generalize (fps [b6 g00 A00 m00 n00 a00, r5 A00 m00 n00 l00]) = FF at HS ⊢
  obtain rfl := (row_len (HS.out.at1)).symm
  unfold atomic_Uint64_Load.f at H
  go_enter Try.func70, Try.ntmps70
  have hc00 : w.cell? ⟨g00, 1, none⟩ = some (.int .u64 a00) := blk_cellv (HS.out.at0) 1 rfl
  have hn00 : (callFunc 103 #[.pointer (some ⟨g00, 1, none⟩)]).run Try.prog w = .ok (.value (.int .u64 a00)) w := run_call_load Try.func103 (by kernel_rfl) (by kernel_rfl) (by kernel_rfl) .u64 (by kernel_rfl) hc00
  go_wp2_with (first | ((with_reducible refine gate_dst (N := 6) rfl ?_); refine run_on2 (by rfl) (w1 := w) (v := .int .u64 a00) ?hr ?_; (case hr => first | (go_simp; done) | (go_simp; rfl)); intro w00 hst; clear hc00; replace HS : Aside0 (Sep FF w [b6 g00 A00 l00.length n00 a00, r5 A00 l00.length n00 l00] w00) := ⟨by rw [hst]; exact HS.out⟩; clear hst hn00))
  go_ret
  rw [← some_eq H]
  exact ⟨(by first | rfl | (simp [IntKind.wrap_u32]; done)), HS.out⟩

set_option maxHeartbeats 30000000 in
set_option maxRecDepth 100000 in
theorem store_Store_Meter.calls (l00 : List Int) (a00 : Int) (g00 : Nat) (A00 : Option Addr) (m00 : Nat) (n00 : Nat) (r : Int) (w : World)   (HS : Aside0 (Sep (fps [b6 g00 A00 m00 n00 a00, r5 A00 m00 n00 l00]) w [b6 g00 A00 m00 n00 a00, r5 A00 m00 n00 l00] w)) (H : Aside0 (store_Store_Meter.f l00 a00 = some r)) :
    Calls Try.prog 21 #[.pointer (some ⟨g00, 0, none⟩)] w fun e w' => e = .returned (.int .u64 r) ∧ Sep (fps [b6 g00 A00 m00 n00 a00, r5 A00 m00 n00 l00]) w [b6 g00 A00 m00 n00 a00, r5 A00 m00 n00 l00] w' := by
  generalize (fps [b6 g00 A00 m00 n00 a00, r5 A00 m00 n00 l00]) = FF at HS ⊢
  obtain rfl := (row_len (HS.out.at1)).symm
  unfold store_Store_Meter.f at H
  go_enter Try.func21, Try.ntmps21
  go_wp2_with fail
  obtain ⟨t00, HA00, H⟩ := bind_some H
  refine (atomic_Uint64_Load.calls l00 a00 g00 A00 l00.length n00 t00 _ ⟨HS.out.begin⟩ HA00).mono ?_
  rintro e_ w00 ⟨rfl, hS⟩
  replace HS : Aside0 (Sep FF w [b6 g00 A00 l00.length n00 a00, r5 A00 l00.length n00 l00] w00) := ⟨HS.out.call hS⟩
  clear hS
  go_wp2_with fail
  go_ret
  rw [← some_eq H]
  exact ⟨(by first | rfl | (simp [IntKind.wrap_u32]; done)), HS.out⟩

set_option maxHeartbeats 30000000 in
set_option maxRecDepth 100000 in
theorem ground_Ground_Meter.calls (l00 : List Int) (a00 : Int) (a01 : Int) (a02 : Int) (a03 : Int) (a04 : Int) (g00 : Nat) (g01 : Nat) (A00 : Option Addr) (m00 : Nat) (n00 : Nat) (r : Int) (w : World)   (HS : Aside0 (Sep (fps [b7 g00 g01 a01 a02 a03 a04, b6 g01 A00 m00 n00 a00, r5 A00 m00 n00 l00]) w [b7 g00 g01 a01 a02 a03 a04, b6 g01 A00 m00 n00 a00, r5 A00 m00 n00 l00] w)) (H : Aside0 (ground_Ground_Meter.f l00 a00 a01 a02 a03 a04 = some r)) :
    Calls Try.prog 35 #[.pointer (some ⟨g00, 0, none⟩)] w fun e w' => e = .returned (.int .u64 r) ∧ Sep (fps [b7 g00 g01 a01 a02 a03 a04, b6 g01 A00 m00 n00 a00, r5 A00 m00 n00 l00]) w [b7 g00 g01 a01 a02 a03 a04, b6 g01 A00 m00 n00 a00, r5 A00 m00 n00 l00] w' := by
  generalize (fps [b7 g00 g01 a01 a02 a03 a04, b6 g01 A00 m00 n00 a00, r5 A00 m00 n00 l00]) = FF at HS ⊢
  obtain rfl := (row_len (HS.out.at2)).symm
  unfold ground_Ground_Meter.f at H
  go_enter Try.func35, Try.ntmps35
  go_wp2_with fail
  obtain ⟨t00, HA00, H⟩ := bind_some H
  refine (ground_Ground_all.calls l00 a00 a01 a02 a03 a04 g00 g01 A00 l00.length n00 t00 _ ⟨HS.out.begin⟩ HA00).mono ?_
  rintro e_ w00 ⟨rfl, hS⟩
  replace HS : Aside0 (Sep FF w [b7 g00 g01 a01 a02 a03 a04, b6 g01 A00 l00.length n00 a00, r5 A00 l00.length n00 l00] w00) := ⟨HS.out.call hS⟩
  clear hS
  go_wp2_with fail
  replace HS : Aside0 (Sep FF w [b6 g01 A00 l00.length n00 a00, r5 A00 l00.length n00 l00, b7 g00 g01 a01 a02 a03 a04] w00) := ⟨((HS.out).front 2 (by simp)).front 2 (by simp)⟩
  obtain ⟨t01, HA01, H⟩ := bind_some H
  refine (store_Store_Meter.calls l00 a00 g01 A00 l00.length n00 t01 _ ⟨HS.out.begin⟩ HA01).mono ?_
  rintro e_ w01 ⟨rfl, hS⟩
  replace HS : Aside0 (Sep FF w [b6 g01 A00 l00.length n00 a00, r5 A00 l00.length n00 l00, b7 g00 g01 a01 a02 a03 a04] w01) := ⟨HS.out.call hS⟩
  clear hS
  go_wp2_with fail
  go_ret
  rw [← some_eq H]
  exact ⟨(by first | rfl | (simp [IntKind.wrap_u32]; done)), ((((HS.out).front 1 (by simp)).front 1 (by simp)).front 2 (by simp)).keep (l := [b7 g00 g01 a01 a02 a03 a04, b6 g01 A00 l00.length n00 a00, r5 A00 l00.length n00 l00]) (rest := [])⟩

set_option maxHeartbeats 30000000 in
set_option maxRecDepth 100000 in
theorem quitrentref08_Has.calls (k : Nat) (l00 : List Int) (a00 : Int) (A00 : Option Addr) (n00 : Nat) (r : Bool) (w : World) (HR00 : Aside0 (Rd (Kd.int .i64) (fps []) w A00 l00.length l00))  (HS : Aside0 (Sep (fps []) w [] w)) (H : Aside0 (quitrentref08_Has.f k l00 a00 = some r)) :
    Calls Try.prog 110 #[.slice A00 l00.length n00, .int .i64 a00] w fun e w' => e = .returned (.bool r) ∧ Sep (fps []) w [] w' := by
  unfold quitrentref08_Has.f at H
  go_enter Try.func110, Try.ntmps110
  go_wp2_with fail
  obtain ⟨o00, AL00, H⟩ := bind_some H
  go_loopg [5] k (fun kq v5 wc => ∃ (x00 : Int), v5 = .int .i64 x00 ∧ Aside0 (quitrentref08_Has.lo0 kq l00 a00 x00 = some o00) ∧ Aside0 (Sep (fps []) w [] wc))
  case atStart => exact ⟨(0), (by first | rfl | (simp [IntKind.wrap_u32]; done)), AL00, ⟨HS.out⟩⟩
  case round =>
    clear AL00 HS
    obtain ⟨x00, rfl, AL00, HS⟩ := hrel
    obtain ⟨w00, rfl⟩ : ∃ x : World, x = wr := ⟨_, rfl⟩
    cases gk with
    | zero => exact absurd AL00.out (by simp [quitrentref08_Has.lo0])
    | succ k00 =>
      have AL0 := AL00.out
      rw [quitrentref08_Has.lo0] at AL0
      clear AL00
      have AL00 := Aside0.mk AL0
      clear AL0
      by_cases c00 : x00 < (l00.length : Int)
      ·replace AL00 := if_yes c00 AL00
       have c00b0 : decide (x00 < (l00.length : Int)) = true := decide_eq_true c00
       clear c00
       by_cases c01 : 0 ≤ x00
       ·replace AL00 := if_yes c01 AL00
        have c01b0 : decide (0 ≤ x00) = true := decide_eq_true c01
        have c01p : (0 ≤ x00) = True := eq_true c01
        clear c01
        have ip00 : (x00 < (l00.length : Int)) = True := eq_true (of_decide_eq_true c00b0)
        by_cases c02 : (rd l00 x00) = a00
        ·replace AL00 := if_yes c02 AL00
         have c02b0 : ((rd l00 x00) == a00) = true := beq_iff_eq.mpr c02
         have c02b1 : ((rd l00 x00) != a00) = false := bne_eq_false_iff_eq.mpr c02
         clear c02
         obtain ⟨hx00a, hx00e, hx00⟩ := Kd.at_int (Rd.read (fun _ _ _ _ h => h) HR00.out HS.out.fr) x00 (of_decide_eq_true c01b0) (of_decide_eq_true c00b0); cases hx00e
         go_wp2_with fail
         clear hx00
         have ho := some_eq AL00
         subst ho
         have H := lp_ret H
         go_ret
         rw [← some_eq H]
         exact ⟨(by first | rfl | (simp [IntKind.wrap_u32]; done)), HS.out⟩
        ·replace AL00 := if_no c02 AL00
         have c02b0 : ((rd l00 x00) == a00) = false := beq_eq_false_iff_ne.mpr c02
         have c02b1 : ((rd l00 x00) != a00) = true := bne_iff_ne.mpr c02
         clear c02
         obtain ⟨hx00a, hx00e, hx00⟩ := Kd.at_int (Rd.read (fun _ _ _ _ h => h) HR00.out HS.out.fr) x00 (of_decide_eq_true c01b0) (of_decide_eq_true c00b0); cases hx00e
         go_wp2_with fail
         clear hx00
         go_roundg k00
         case measure => exact Nat.lt_succ_self _
         case rel => exact ⟨(wrap64 (x00 + 1)), (by first | rfl | (simp [IntKind.wrap_u32]; done)), Aside0.mk AL00.out, ⟨HS.out⟩⟩
       ·replace AL00 := if_no c01 AL00
        have c01b0 : decide (0 ≤ x00) = false := decide_eq_false c01
        clear c01
        exact (none_no AL00).elim
      ·replace AL00 := if_no c00 AL00
       have c00b0 : decide (x00 < (l00.length : Int)) = false := decide_eq_false c00
       clear c00
       have ho := some_eq AL00
       subst ho
       clear AL00
       have H := lp_out H
       go_wp2_with fail
       go_ret
       rw [← some_eq H]
       exact ⟨(by first | rfl | (simp [IntKind.wrap_u32]; done)), HS.out⟩

set_option maxHeartbeats 30000000 in
set_option maxRecDepth 100000 in
theorem quitrentref08_Chains_Stands.calls (k : Nat) (l00 : List Int) (l01 : List Int) (a00 : Int) (g00 : Nat) (A00 : Option Addr) (m00 : Nat) (n00 : Nat) (A01 : Option Addr) (m01 : Nat) (n01 : Nat) (r : Bool) (w : World)   (HS : Aside0 (Sep (fps [b14 g00 A00 m00 n00 A01 m01 n01, r11 A00 m00 n00 l00, r11 A01 m01 n01 l01]) w [b14 g00 A00 m00 n00 A01 m01 n01, r11 A00 m00 n00 l00, r11 A01 m01 n01 l01] w)) (H : Aside0 (quitrentref08_Chains_Stands.f k l00 l01 a00 = some r)) :
    Calls Try.prog 93 #[.pointer (some ⟨g00, 0, none⟩), .int .i64 a00] w fun e w' => e = .returned (.bool r) ∧ Sep (fps [b14 g00 A00 m00 n00 A01 m01 n01, r11 A00 m00 n00 l00, r11 A01 m01 n01 l01]) w [b14 g00 A00 m00 n00 A01 m01 n01, r11 A00 m00 n00 l00, r11 A01 m01 n01 l01] w' := by
  generalize (fps [b14 g00 A00 m00 n00 A01 m01 n01, r11 A00 m00 n00 l00, r11 A01 m01 n01 l01]) = FF at HS ⊢
  obtain rfl := (row_len (HS.out.at1)).symm
  obtain rfl := (row_len (HS.out.at2)).symm
  unfold quitrentref08_Chains_Stands.f at H
  go_enter Try.func93, Try.ntmps93
  have hc00 : w.cell? ⟨g00, 0, none⟩ = some (.slice A00 l00.length n00) := blk_cellv (HS.out.at0) 0 rfl
  go_wp2_with fail
  clear hc00
  obtain ⟨t00, HA00, H⟩ := bind_some H
  refine (quitrentref08_Has.calls _ l00 a00 A00 n00 t00 _ ⟨Rd.ownI (l := []) HS.out 1 rfl⟩ ⟨Sep.start _⟩ HA00).mono ?_
  rintro e_ w00 ⟨rfl, hS⟩
  replace HS : Aside0 (Sep FF w [b14 g00 A00 l00.length n00 A01 l01.length n01, r11 A00 l00.length n00 l00, r11 A01 l01.length n01 l01] w00) := ⟨HS.out.call hS⟩
  clear hS
  by_cases c00 : t00 = true
  ·replace H := if_yes c00 H
   have c00b0 : t00 = true := c00
   have c00b1 : (!t00) = false := by rw [c00b0]; rfl
   clear c00
   go_wp2_with fail
   go_ret
   rw [← some_eq H]
   exact ⟨(by first | rfl | (simp [IntKind.wrap_u32]; done)), HS.out⟩
  ·replace H := if_no c00 H
   have c00b0 : t00 = false := by simpa using c00
   have c00b1 : (!t00) = true := by rw [c00b0]; rfl
   clear c00
   have hc01 : w00.cell? ⟨g00, 1, none⟩ = some (.slice A01 l01.length n01) := blk_cellv (HS.out.at0) 1 rfl
   go_wp2_with fail
   clear hc01
   obtain ⟨t01, HA01, H⟩ := bind_some H
   refine (quitrentref08_Has.calls _ l01 a00 A01 n01 t01 _ ⟨Rd.ownI (l := []) HS.out 2 rfl⟩ ⟨Sep.start _⟩ HA01).mono ?_
   rintro e_ w01 ⟨rfl, hS⟩
   replace HS : Aside0 (Sep FF w [b14 g00 A00 l00.length n00 A01 l01.length n01, r11 A00 l00.length n00 l00, r11 A01 l01.length n01 l01] w01) := ⟨HS.out.call hS⟩
   clear hS
   go_wp2_with fail
   go_ret
   rw [← some_eq H]
   exact ⟨(by first | rfl | (simp [IntKind.wrap_u32]; done)), HS.out⟩

set_option maxHeartbeats 30000000 in
set_option maxRecDepth 100000 in
theorem quitrentref08_Front.calls (k : Nat) (l00 : List Int) (a00 : Int) (A00 : Option Addr) (n00 : Nat) (r : List Int) (w : World) (HR00 : Aside0 (Rd (Kd.int .i64) (fps []) w A00 l00.length l00))  (HS : Aside0 (Sep (fps []) w [] w)) (H : Aside0 (quitrentref08_Front.f k l00 a00 = some r)) :
    Calls Try.prog 95 #[.slice A00 l00.length n00, .int .i64 a00] w fun e w' => ∃ (A01 : Option Addr) (m00 : Nat) (n01 : Nat), e = .returned (.slice A01 m00 n01) ∧ Sep (fps []) w [r11 A01 m00 n01 r] w' := by
  unfold quitrentref08_Front.f at H
  go_enter Try.func95, Try.ntmps95
  go_wp2_with (first | ((with_reducible refine gate_dst (N := 8) rfl ?_); refine slice_on (n := 1) ?hg (N := 8) ?hd (cs := #[.int .i64 a00]) (t := 3) ?hr ?_; (case hd => rfl); (case hg => rfl); (case hr => first | (go_simp; done) | (go_simp; rfl)); intro g00 hg w00 hbox hb; replace HS : Aside0 (Sep (fps []) w [b9 g00 a00] w00) := ⟨HS.out.box hg hbox hb⟩; clear hg hbox hb))
  replace HS : Aside0 (Sep (fps []) w [r11 (some ⟨g00, 0, none⟩) 1 1 [a00]] w00) := ⟨Sep.litrow (l1 := []) (l2 := []) (enc := Value.int .i64) (xs := [a00]) (n := 1) HS.out rfl (by decide)⟩
  obtain ⟨o00, AL00, H⟩ := bind_some H
  go_loopg [5, 6] k (fun kq v5 v6 wc => ∃ (x00 : Int) (x01 : List Int) (A02 : Option Addr) (m01 : Nat) (n02 : Nat), v5 = .slice A02 m01 n02 ∧ v6 = .int .i64 x00 ∧ Aside0 (quitrentref08_Front.lo0 kq l00 x00 x01 = some o00) ∧ Aside0 (Sep (fps []) w [r11 A02 m01 n02 x01] wc))
  case atStart => exact ⟨(0), ([a00]), ((some ⟨g00, 0, none⟩)), (1), (1), (by first | rfl | (simp [IntKind.wrap_u32]; done)), (by first | rfl | (simp [IntKind.wrap_u32]; done)), AL00, ⟨HS.out⟩⟩
  case round =>
    clear AL00 HS
    obtain ⟨x00, x01, A02, m01, n02, rfl, rfl, AL00, HS⟩ := hrel
    obtain ⟨w01, rfl⟩ : ∃ x : World, x = wr := ⟨_, rfl⟩
    obtain rfl := (row_len (HS.out.at0)).symm
    cases gk with
    | zero => exact absurd AL00.out (by simp [quitrentref08_Front.lo0])
    | succ k00 =>
      have AL0 := AL00.out
      rw [quitrentref08_Front.lo0] at AL0
      clear AL00
      have AL00 := Aside0.mk AL0
      clear AL0
      by_cases c00 : x00 < (l00.length : Int)
      ·replace AL00 := if_yes c00 AL00
       have c00b0 : decide (x00 < (l00.length : Int)) = true := decide_eq_true c00
       clear c00
       by_cases c01 : 0 ≤ x00
       ·replace AL00 := if_yes c01 AL00
        have c01b0 : decide (0 ≤ x00) = true := decide_eq_true c01
        have c01p : (0 ≤ x00) = True := eq_true c01
        clear c01
        have ip00 : (x00 < (l00.length : Int)) = True := eq_true (of_decide_eq_true c00b0)
        by_cases c02 : x01.length < 17592186044416
        ·replace AL00 := if_yes c02 AL00
         have c02b0 : decide (x01.length < 17592186044416) = true := decide_eq_true c02
         clear c02
         obtain ⟨y00, HA00, AL00⟩ := bind_some AL00
         obtain ⟨hx00a, hx00e, hx00⟩ := Kd.at_int (Rd.read (fun _ _ _ _ h => h) HR00.out HS.out.fr) x00 (of_decide_eq_true c01b0) (of_decide_eq_true c00b0); cases hx00e
         go_wp2_with (first | ((with_reducible refine gate_dst (N := 20) rfl ?_); refine slice_on (n := 1) ?hg (N := 20) ?hd (cs := #[.int .i64 (rd l00 x00)]) (t := 3) ?hr ?_; (case hd => rfl); (case hg => rfl); (case hr => first | (go_simp; done) | (go_simp; rfl)); intro g01 hg w02 hbox hb; clear hx00; replace HS : Aside0 (Sep (fps []) w [r11 A02 x01.length n02 x01, b9 g01 (rd l00 x00)] w02) := ⟨HS.out.box hg hbox hb⟩; clear hg hbox hb) | ((with_reducible refine gate_dst (N := 21) rfl ?_); refine append_event (l1 := []) (l2 := [b9 g01 (rd l00 x00)]) rfl (.tmp 15) (.tmp 20) 78 3 (.int .i64 0) 8 rfl Try.underlying78 (by kernel_rfl) rfl (by decide) (Value.int .i64) (fun _ => rfl) (.slice A02 x01.length n02) (x01 : List Int) [rd l00 x00] ⟨g01, 0, none⟩ 1 rfl rfl (blk_news (xs := [rd l00 x00]) (HS.out.at1)) HS.out (by have := of_decide_eq_true c02b0; simp only [List.length_cons, List.length_nil]; omega) HA00 ?_; intro A03 n03 w03 HS1; replace HS : Aside0 (Sep (fps []) w [r11 A03 y00.length n03 y00, b9 g01 (rd l00 x00)] w03) := ⟨HS1⟩; clear HS1; replace HS : Aside0 (Sep (fps []) w [r11 A03 y00.length n03 y00] w03) := ⟨HS.out.sub (.cons_cons _ (.cons _ .slnil))⟩))
         go_roundg k00
         case measure => exact Nat.lt_succ_self _
         case rel => exact ⟨(wrap64 (x00 + 1)), (y00), (A03), (y00.length), (n03), (by first | rfl | (simp [IntKind.wrap_u32]; done)), (by first | rfl | (simp [IntKind.wrap_u32]; done)), Aside0.mk AL00.out, ⟨HS.out⟩⟩
        ·replace AL00 := if_no c02 AL00
         have c02b0 : decide (x01.length < 17592186044416) = false := decide_eq_false c02
         clear c02
         exact (none_no AL00).elim
       ·replace AL00 := if_no c01 AL00
        have c01b0 : decide (0 ≤ x00) = false := decide_eq_false c01
        clear c01
        exact (none_no AL00).elim
      ·replace AL00 := if_no c00 AL00
       have c00b0 : decide (x00 < (l00.length : Int)) = false := decide_eq_false c00
       clear c00
       have ho := some_eq AL00
       subst ho
       clear AL00
       go_wp2_with fail
       go_ret
       rw [← some_eq H]
       exact ⟨A02, x01.length, n02, (by first | rfl | (simp [IntKind.wrap_u32]; done)), HS.out⟩

set_option maxHeartbeats 30000000 in
set_option maxRecDepth 100000 in
theorem quitrentref08_Chains_Set_1.calls (l00 : List Int) (l01 : List Int) (a00 : Int) (l02 : List Int) (g00 : Nat) (A00 : Option Addr) (m00 : Nat) (n00 : Nat) (A01 : Option Addr) (m01 : Nat) (n01 : Nat) (A02 : Option Addr) (m02 : Nat) (n02 : Nat) (r : Unit ⊕ Unit) (w : World)   (HS : Aside0 (Sep (fps [b14 g00 A00 m00 n00 A01 m01 n01, r11 A00 m00 n00 l00, r11 A01 m01 n01 l01, r11 A02 m02 n02 l02]) w [b14 g00 A00 m00 n00 A01 m01 n01, r11 A00 m00 n00 l00, r11 A01 m01 n01 l01, r11 A02 m02 n02 l02] w)) (H : Aside0 (quitrentref08_Chains_Set_1.f l00 l01 a00 l02 = some r)) :
    Calls Try.prog 94 #[.pointer (some ⟨g00, 0, none⟩), .int .i64 a00, .slice A02 m02 n02] w fun e w' => Sum.elim (fun (r : Unit) => e = .returned (.tuple #[]) ∧ Sep (fps [b14 g00 A00 m00 n00 A01 m01 n01, r11 A00 m00 n00 l00, r11 A01 m01 n01 l01, r11 A02 m02 n02 l02]) w [b14 g00 A02 m02 n02 A01 m01 n01, r11 A00 m00 n00 l00, r11 A01 m01 n01 l01, r11 A02 m02 n02 l02] w') (fun (r : Unit) => e = .returned (.tuple #[]) ∧ Sep (fps [b14 g00 A00 m00 n00 A01 m01 n01, r11 A00 m00 n00 l00, r11 A01 m01 n01 l01, r11 A02 m02 n02 l02]) w [b14 g00 A00 m00 n00 A02 m02 n02, r11 A00 m00 n00 l00, r11 A01 m01 n01 l01, r11 A02 m02 n02 l02] w') r := by
  generalize (fps [b14 g00 A00 m00 n00 A01 m01 n01, r11 A00 m00 n00 l00, r11 A01 m01 n01 l01, r11 A02 m02 n02 l02]) = FF at HS ⊢
  obtain rfl := (row_len (HS.out.at1)).symm
  obtain rfl := (row_len (HS.out.at2)).symm
  obtain rfl := (row_len (HS.out.at3)).symm
  unfold quitrentref08_Chains_Set_1.f at H
  go_enter Try.func94, Try.ntmps94
  by_cases c00 : a00 = 0
  ·replace H := if_yes c00 H
   have c00b0 : (a00 == 0) = true := beq_iff_eq.mpr c00
   have c00b1 : (a00 != 0) = false := bne_eq_false_iff_eq.mpr c00
   clear c00
   have hc00 : w.cell? ⟨g00, 0, none⟩ = some (.slice A00 l00.length n00) := blk_cellv (HS.out.at0) 0 rfl
   have hz00 : w.frozen? ⟨g00, 0, none⟩ = false := blk_fz (HS.out.at0) 0
   go_wp2_with (first | ((with_reducible refine gate_store (t := 78) (p := 11) rfl ?_); refine store_event (w1 := (World.setCell w ⟨g00, 0, none⟩ (.slice A02 l02.length n02))) rfl (t := 78) (p := 11) rfl rfl ?hr ?_; (case hr => first | (go_simp; done) | (go_simp; rfl)); intro w00 hst; clear hc00 hz00; have hq0 : Sep FF w [b14 g00 A02 l02.length n02 A01 l01.length n01, r11 A00 l00.length n00 l00, r11 A01 l01.length n01 l01, r11 A02 l02.length n02 l02] (World.setCell w ⟨g00, 0, none⟩ (.slice A02 l02.length n02)) := (HS.out).set1 (l1 := []) (l2 := [r11 A00 l00.length n00 l00, r11 A01 l01.length n01 l01, r11 A02 l02.length n02 l02]) 0 (.slice A02 l02.length n02); replace HS : Aside0 (Sep FF w [b14 g00 A02 l02.length n02 A01 l01.length n01, r11 A00 l00.length n00 l00, r11 A01 l01.length n01 l01, r11 A02 l02.length n02 l02] w00) := ⟨by rw [hst]; exact hq0⟩; clear hq0; clear hst))
   first | go_end0 | refine bodyPost_ret (results_none rfl _ _ _) rfl ?_
   rw [← some_eq H]
   exact ⟨rfl, HS.out⟩
  ·replace H := if_no c00 H
   have c00b0 : (a00 == 0) = false := beq_eq_false_iff_ne.mpr c00
   have c00b1 : (a00 != 0) = true := bne_iff_ne.mpr c00
   clear c00
   have hc01 : w.cell? ⟨g00, 1, none⟩ = some (.slice A01 l01.length n01) := blk_cellv (HS.out.at0) 1 rfl
   have hz01 : w.frozen? ⟨g00, 1, none⟩ = false := blk_fz (HS.out.at0) 1
   go_wp2_with (first | ((with_reducible refine gate_store (t := 78) (p := 15) rfl ?_); refine store_event (w1 := (World.setCell w ⟨g00, 1, none⟩ (.slice A02 l02.length n02))) rfl (t := 78) (p := 15) rfl rfl ?hr ?_; (case hr => first | (go_simp; done) | (go_simp; rfl)); intro w01 hst; clear hc01 hz01; have hq0 : Sep FF w [b14 g00 A00 l00.length n00 A02 l02.length n02, r11 A00 l00.length n00 l00, r11 A01 l01.length n01 l01, r11 A02 l02.length n02 l02] (World.setCell w ⟨g00, 1, none⟩ (.slice A02 l02.length n02)) := (HS.out).set1 (l1 := []) (l2 := [r11 A00 l00.length n00 l00, r11 A01 l01.length n01 l01, r11 A02 l02.length n02 l02]) 1 (.slice A02 l02.length n02); replace HS : Aside0 (Sep FF w [b14 g00 A00 l00.length n00 A02 l02.length n02, r11 A00 l00.length n00 l00, r11 A01 l01.length n01 l01, r11 A02 l02.length n02 l02] w01) := ⟨by rw [hst]; exact hq0⟩; clear hq0; clear hst))
   first | go_end0 | refine bodyPost_ret (results_none rfl _ _ _) rfl ?_
   rw [← some_eq H]
   exact ⟨rfl, HS.out⟩

set_option maxHeartbeats 30000000 in
set_option maxRecDepth 100000 in
theorem quitrentref08_Behind.calls (k : Nat) (l00 : List Int) (a00 : Int) (A00 : Option Addr) (n00 : Nat) (r : List Int) (w : World) (HR00 : Aside0 (Rd (Kd.int .i64) (fps []) w A00 l00.length l00))  (HS : Aside0 (Sep (fps []) w [] w)) (H : Aside0 (quitrentref08_Behind.f k l00 a00 = some r)) :
    Calls Try.prog 96 #[.slice A00 l00.length n00, .int .i64 a00] w fun e w' => ∃ (A01 : Option Addr) (m00 : Nat) (n01 : Nat), e = .returned (.slice A01 m00 n01) ∧ Sep (fps []) w [r11 A01 m00 n01 r] w' := by
  unfold quitrentref08_Behind.f at H
  go_enter Try.func96, Try.ntmps96
  go_wp2_with fail
  replace HS : Aside0 (Sep (fps []) w [r11 none 0 0 []] w) := ⟨HS.out.nilrow 3 (Value.int .i64)⟩
  obtain ⟨o00, AL00, H⟩ := bind_some H
  go_loopg [5, 6] k (fun kq v5 v6 wc => ∃ (x00 : Int) (x01 : List Int) (A02 : Option Addr) (m01 : Nat) (n02 : Nat), v5 = .slice A02 m01 n02 ∧ v6 = .int .i64 x00 ∧ Aside0 (quitrentref08_Behind.lo0 kq l00 x00 x01 = some o00) ∧ Aside0 (Sep (fps []) w [r11 A02 m01 n02 x01] wc))
  case atStart => exact ⟨(0), (([] : List Int)), (none), (0), (0), (by first | rfl | (simp [IntKind.wrap_u32]; done)), (by first | rfl | (simp [IntKind.wrap_u32]; done)), AL00, ⟨HS.out⟩⟩
  case round =>
    clear AL00 HS
    obtain ⟨x00, x01, A02, m01, n02, rfl, rfl, AL00, HS⟩ := hrel
    obtain ⟨w00, rfl⟩ : ∃ x : World, x = wr := ⟨_, rfl⟩
    obtain rfl := (row_len (HS.out.at0)).symm
    cases gk with
    | zero => exact absurd AL00.out (by simp [quitrentref08_Behind.lo0])
    | succ k00 =>
      have AL0 := AL00.out
      rw [quitrentref08_Behind.lo0] at AL0
      clear AL00
      have AL00 := Aside0.mk AL0
      clear AL0
      by_cases c00 : x00 < (l00.length : Int)
      ·replace AL00 := if_yes c00 AL00
       have c00b0 : decide (x00 < (l00.length : Int)) = true := decide_eq_true c00
       clear c00
       by_cases c01 : 0 ≤ x00
       ·replace AL00 := if_yes c01 AL00
        have c01b0 : decide (0 ≤ x00) = true := decide_eq_true c01
        have c01p : (0 ≤ x00) = True := eq_true c01
        clear c01
        have ip00 : (x00 < (l00.length : Int)) = True := eq_true (of_decide_eq_true c00b0)
        by_cases c02 : x01.length < 17592186044416
        ·replace AL00 := if_yes c02 AL00
         have c02b0 : decide (x01.length < 17592186044416) = true := decide_eq_true c02
         clear c02
         obtain ⟨y00, HA00, AL00⟩ := bind_some AL00
         obtain ⟨hx00a, hx00e, hx00⟩ := Kd.at_int (Rd.read (fun _ _ _ _ h => h) HR00.out HS.out.fr) x00 (of_decide_eq_true c01b0) (of_decide_eq_true c00b0); cases hx00e
         go_wp2_with (first | ((with_reducible refine gate_dst (N := 18) rfl ?_); refine slice_on (n := 1) ?hg (N := 18) ?hd (cs := #[.int .i64 (rd l00 x00)]) (t := 3) ?hr ?_; (case hd => rfl); (case hg => rfl); (case hr => first | (go_simp; done) | (go_simp; rfl)); intro g00 hg w01 hbox hb; clear hx00; replace HS : Aside0 (Sep (fps []) w [r11 A02 x01.length n02 x01, b9 g00 (rd l00 x00)] w01) := ⟨HS.out.box hg hbox hb⟩; clear hg hbox hb) | ((with_reducible refine gate_dst (N := 19) rfl ?_); refine append_event (l1 := []) (l2 := [b9 g00 (rd l00 x00)]) rfl (.tmp 13) (.tmp 18) 78 3 (.int .i64 0) 8 rfl Try.underlying78 (by kernel_rfl) rfl (by decide) (Value.int .i64) (fun _ => rfl) (.slice A02 x01.length n02) (x01 : List Int) [rd l00 x00] ⟨g00, 0, none⟩ 1 rfl rfl (blk_news (xs := [rd l00 x00]) (HS.out.at1)) HS.out (by have := of_decide_eq_true c02b0; simp only [List.length_cons, List.length_nil]; omega) HA00 ?_; intro A03 n03 w02 HS1; replace HS : Aside0 (Sep (fps []) w [r11 A03 y00.length n03 y00, b9 g00 (rd l00 x00)] w02) := ⟨HS1⟩; clear HS1; replace HS : Aside0 (Sep (fps []) w [r11 A03 y00.length n03 y00] w02) := ⟨HS.out.sub (.cons_cons _ (.cons _ .slnil))⟩))
         go_roundg k00
         case measure => exact Nat.lt_succ_self _
         case rel => exact ⟨(wrap64 (x00 + 1)), (y00), (A03), (y00.length), (n03), (by first | rfl | (simp [IntKind.wrap_u32]; done)), (by first | rfl | (simp [IntKind.wrap_u32]; done)), Aside0.mk AL00.out, ⟨HS.out⟩⟩
        ·replace AL00 := if_no c02 AL00
         have c02b0 : decide (x01.length < 17592186044416) = false := decide_eq_false c02
         clear c02
         exact (none_no AL00).elim
       ·replace AL00 := if_no c01 AL00
        have c01b0 : decide (0 ≤ x00) = false := decide_eq_false c01
        clear c01
        exact (none_no AL00).elim
      ·replace AL00 := if_no c00 AL00
       have c00b0 : decide (x00 < (l00.length : Int)) = false := decide_eq_false c00
       clear c00
       have ho := some_eq AL00
       subst ho
       clear AL00
       by_cases c03 : x01.length < 17592186044416
       ·replace H := if_yes c03 H
        have c03b0 : decide (x01.length < 17592186044416) = true := decide_eq_true c03
        clear c03
        obtain ⟨y01, HA01, H⟩ := bind_some H
        go_wp2_with (first | ((with_reducible refine gate_dst (N := 22) rfl ?_); refine slice_on (n := 1) ?hg (N := 22) ?hd (cs := #[.int .i64 a00]) (t := 3) ?hr ?_; (case hd => rfl); (case hg => rfl); (case hr => first | (go_simp; done) | (go_simp; rfl)); intro g01 hg w03 hbox hb; replace HS : Aside0 (Sep (fps []) w [r11 A02 x01.length n02 x01, b9 g01 a00] w03) := ⟨HS.out.box hg hbox hb⟩; clear hg hbox hb) | ((with_reducible refine gate_dst (N := 23) rfl ?_); refine append_event (l1 := []) (l2 := [b9 g01 a00]) rfl (.tmp 20) (.tmp 22) 78 3 (.int .i64 0) 8 rfl Try.underlying78 (by kernel_rfl) rfl (by decide) (Value.int .i64) (fun _ => rfl) (.slice A02 x01.length n02) (x01 : List Int) [a00] ⟨g01, 0, none⟩ 1 rfl rfl (blk_news (xs := [a00]) (HS.out.at1)) HS.out (by have := of_decide_eq_true c03b0; simp only [List.length_cons, List.length_nil]; omega) HA01 ?_; intro A04 n04 w04 HS1; replace HS : Aside0 (Sep (fps []) w [r11 A04 y01.length n04 y01, b9 g01 a00] w04) := ⟨HS1⟩; clear HS1; replace HS : Aside0 (Sep (fps []) w [r11 A04 y01.length n04 y01] w04) := ⟨HS.out.sub (.cons_cons _ (.cons _ .slnil))⟩))
        go_ret
        rw [← some_eq H]
        exact ⟨A04, y01.length, n04, (by first | rfl | (simp [IntKind.wrap_u32]; done)), HS.out⟩
       ·replace H := if_no c03 H
        have c03b0 : decide (x01.length < 17592186044416) = false := decide_eq_false c03
        clear c03
        exact (none_no H).elim

set_option maxHeartbeats 30000000 in
set_option maxRecDepth 100000 in
theorem ground_Ground_Word.calls (l00 : List Int) (a00 : Int) (a01 : Int) (a02 : Int) (a03 : Int) (a04 : Int) (a05 : Int) (a06 : Int) (g00 : Nat) (g01 : Nat) (A00 : Option Addr) (m00 : Nat) (n00 : Nat) (r : Int × Int) (w : World)   (HS : Aside0 (Sep (fps [b7 g00 g01 a01 a02 a03 a04, b6 g01 A00 m00 n00 a00, r5 A00 m00 n00 l00]) w [b7 g00 g01 a01 a02 a03 a04, b6 g01 A00 m00 n00 a00, r5 A00 m00 n00 l00] w)) (H : Aside0 (ground_Ground_Word.f l00 a00 a01 a02 a03 a04 a05 a06 = some r)) :
    Calls Try.prog 45 #[.pointer (some ⟨g00, 0, none⟩), .int .i64 a05, .int .i64 a06] w fun e w' => e = .returned (.int .u32 r.1) ∧ Sep (fps [b7 g00 g01 a01 a02 a03 a04, b6 g01 A00 m00 n00 a00, r5 A00 m00 n00 l00]) w [b7 g00 g01 a01 a02 a03 a04, b6 g01 A00 m00 n00 r.2, r5 A00 m00 n00 l00] w' := by
  generalize (fps [b7 g00 g01 a01 a02 a03 a04, b6 g01 A00 m00 n00 a00, r5 A00 m00 n00 l00]) = FF at HS ⊢
  obtain rfl := (row_len (HS.out.at2)).symm
  unfold ground_Ground_Word.f at H
  go_enter Try.func45, Try.ntmps45
  go_wp2_with fail
  obtain ⟨t00, HA00, H⟩ := bind_some H
  refine (ground_Ground_all.calls l00 a00 a01 a02 a03 a04 g00 g01 A00 l00.length n00 t00 _ ⟨HS.out.begin⟩ HA00).mono ?_
  rintro e_ w00 ⟨rfl, hS⟩
  replace HS : Aside0 (Sep FF w [b7 g00 g01 a01 a02 a03 a04, b6 g01 A00 l00.length n00 a00, r5 A00 l00.length n00 l00] w00) := ⟨HS.out.call hS⟩
  clear hS
  go_wp2_with fail
  obtain ⟨t01, HA01, H⟩ := bind_some H
  refine (ground_Ground_word.calls l00 a00 a01 a02 a03 a04 a05 a06 g00 g01 A00 l00.length n00 t01 _ ⟨HS.out.begin⟩ HA01).mono ?_
  rintro e_ w01 ⟨rfl, hS⟩
  replace HS : Aside0 (Sep FF w [b7 g00 g01 a01 a02 a03 a04, b6 g01 A00 l00.length n00 a00, r5 A00 l00.length n00 l00] w01) := ⟨HS.out.call hS⟩
  clear hS
  go_wp2_with fail
  replace HS : Aside0 (Sep FF w [b6 g01 A00 l00.length n00 a00, r5 A00 l00.length n00 l00, b7 g00 g01 a01 a02 a03 a04] w01) := ⟨((HS.out).front 2 (by simp)).front 2 (by simp)⟩
  obtain ⟨t02, HA02, H⟩ := bind_some H
  refine (store_Store_Get.calls l00 a00 t01 g01 A00 l00.length n00 t02 _ ⟨HS.out.begin⟩ HA02).mono ?_
  rintro e_ w02 ⟨rfl, hS⟩
  replace HS : Aside0 (Sep FF w [b6 g01 A00 l00.length n00 t02.2, r5 A00 l00.length n00 l00, b7 g00 g01 a01 a02 a03 a04] w02) := ⟨HS.out.call hS⟩
  clear hS
  go_wp2_with fail
  go_ret
  rw [← some_eq H]
  exact ⟨(by first | rfl | (simp [IntKind.wrap_u32]; done)), ((((HS.out).front 1 (by simp)).front 1 (by simp)).front 2 (by simp)).keep (l := [b7 g00 g01 a01 a02 a03 a04, b6 g01 A00 l00.length n00 t02.2, r5 A00 l00.length n00 l00]) (rest := [])⟩

set_option maxHeartbeats 30000000 in
set_option maxRecDepth 100000 in
theorem chain_Take.calls (l00 : List Int) (a00 : Int) (a01 : Int) (a02 : Int) (a03 : Int) (a04 : Int) (a05 : Int) (g00 : Nat) (g01 : Nat) (A00 : Option Addr) (m00 : Nat) (n00 : Nat) (r : Int × Bool × Int × List Int) (w : World)   (HS : Aside0 (Sep (fps [b7 g00 g01 a01 a02 a03 a04, b6 g01 A00 m00 n00 a00, r5 A00 m00 n00 l00]) w [b7 g00 g01 a01 a02 a03 a04, b6 g01 A00 m00 n00 a00, r5 A00 m00 n00 l00] w)) (H : Aside0 (chain_Take.f l00 a00 a01 a02 a03 a04 a05 = some r)) :
    Calls Try.prog 54 #[.pointer (some ⟨g00, 0, none⟩), .int .i64 a05] w fun e w' => e = .returned (.tuple #[.int .i64 r.1, .bool r.2.1]) ∧ Sep (fps [b7 g00 g01 a01 a02 a03 a04, b6 g01 A00 m00 n00 a00, r5 A00 m00 n00 l00]) w [b7 g00 g01 a01 a02 a03 a04, b6 g01 A00 m00 n00 r.2.2.1, r5 A00 m00 n00 r.2.2.2] w' := by
  generalize (fps [b7 g00 g01 a01 a02 a03 a04, b6 g01 A00 m00 n00 a00, r5 A00 m00 n00 l00]) = FF at HS ⊢
  obtain rfl := (row_len (HS.out.at2)).symm
  unfold chain_Take.f at H
  go_enter Try.func54, Try.ntmps54
  go_wp2_with fail
  obtain ⟨t00, HA00, H⟩ := bind_some H
  refine (chain_of.calls l00 a00 a01 a02 a03 a04 a05 g00 g01 A00 l00.length n00 t00 _ ⟨HS.out.begin⟩ HA00).mono ?_
  rintro e_ w00 ⟨rfl, hS⟩
  replace HS : Aside0 (Sep FF w [b7 g00 g01 a01 a02 a03 a04, b6 g01 A00 l00.length n00 a00, r5 A00 l00.length n00 l00] w00) := ⟨HS.out.call hS⟩
  clear hS
  by_cases c00 : t00.2.2.2 = true
  ·replace H := if_yes c00 H
   have c00b0 : t00.2.2.2 = true := c00
   have c00b1 : (!t00.2.2.2) = false := by rw [c00b0]; rfl
   try rw [c00b1]
   clear c00
   go_wp2_with (first | ((with_reducible refine gate_dst (N := 6) rfl ?_); refine box_on ?hg (N := 6) ?hd (cs := #[.int .i64 0, .int .i64 0, .int .i64 0]) (t := 134) ?hr ?_; (case hd => rfl); (case hg => rfl); (case hr => first | (go_simp; done) | (go_simp; rfl)); intro g02 hg w01 hbox hb; replace HS : Aside0 (Sep FF w [b7 g00 g01 a01 a02 a03 a04, b6 g01 A00 l00.length n00 a00, r5 A00 l00.length n00 l00, b10 g02 0 0 0] w01) := ⟨HS.out.box hg hbox hb⟩; clear hg hbox hb; have hc00 : w01.cell? ⟨g02, 0, none⟩ = some (.int .i64 0) := blk_cellv (HS.out.at3) 0 rfl; have hz00 : w01.frozen? ⟨g02, 0, none⟩ = false := blk_fz (HS.out.at3) 0; have hc01 : w01.cell? ⟨g02, 1, none⟩ = some (.int .i64 0) := blk_cellv (HS.out.at3) 1 rfl; have hz01 : w01.frozen? ⟨g02, 1, none⟩ = false := blk_fz (HS.out.at3) 1; have hc02 : w01.cell? ⟨g02, 2, none⟩ = some (.int .i64 0) := blk_cellv (HS.out.at3) 2 rfl; have hz02 : w01.frozen? ⟨g02, 2, none⟩ = false := blk_fz (HS.out.at3) 2) | ((with_reducible refine gate_store (t := 134) (p := 6) rfl ?_); refine store_event (w1 := (World.setCell (World.setCell (World.setCell w01 ⟨g02, 0, none⟩ (.int .i64 t00.1)) ⟨g02, 1, none⟩ (.int .i64 t00.2.1)) ⟨g02, 2, none⟩ (.int .i64 t00.2.2.1))) rfl (t := 134) (p := 6) rfl rfl ?hr ?_; (case hr => first | (go_simp; done) | (go_simp; rfl)); intro w02 hst; clear hc00 hz00 hc01 hz01 hc02 hz02; replace HS : Aside0 (Sep FF w [b7 g00 g01 a01 a02 a03 a04, b6 g01 A00 l00.length n00 a00, r5 A00 l00.length n00 l00, b10 g02 t00.1 t00.2.1 t00.2.2.1] w02) := ⟨by rw [hst]; exact HS.out.setAll (l1 := [b7 g00 g01 a01 a02 a03 a04, b6 g01 A00 l00.length n00 a00, r5 A00 l00.length n00 l00]) (l2 := []) [.int .i64 t00.1, .int .i64 t00.2.1, .int .i64 t00.2.2.1] rfl⟩; clear hst; have hc03 : w02.cell? ⟨g02, 0, none⟩ = some (.int .i64 t00.1) := blk_cellv (HS.out.at3) 0 rfl))
   clear hc03
   obtain ⟨t01, HA01, H⟩ := bind_some H
   refine (ground_Ground_Reg.calls l00 a00 a01 a02 a03 a04 t00.1 g00 g01 A00 l00.length n00 t01 _ ⟨HS.out.begin⟩ HA01).mono ?_
   rintro e_ w03 ⟨rfl, hS⟩
   replace HS : Aside0 (Sep FF w [b7 g00 g01 a01 a02 a03 a04, b6 g01 A00 l00.length n00 t01.2, r5 A00 l00.length n00 l00, b10 g02 t00.1 t00.2.1 t00.2.2.1] w03) := ⟨HS.out.call hS⟩
   clear hS
   by_cases c01 : t01.1 = 0
   ·replace H := if_yes c01 H
    have c01b0 : (t01.1 == 0) = true := beq_iff_eq.mpr c01
    have c01b1 : (t01.1 != 0) = false := bne_eq_false_iff_eq.mpr c01
    clear c01
    replace HS : Aside0 (Sep FF w [b7 g00 g01 a01 a02 a03 a04, b6 g01 A00 l00.length n00 t01.2, r5 A00 l00.length n00 l00] w03) := ⟨HS.out.sub (.cons_cons _ (.cons_cons _ (.cons_cons _ (.cons _ .slnil))))⟩
    go_wp2_with fail
    go_ret2
    rw [← some_eq H]
    exact ⟨(by first | rfl | (simp [IntKind.wrap_u32]; done)), HS.out⟩
   ·replace H := if_no c01 H
    have c01b0 : (t01.1 == 0) = false := beq_eq_false_iff_ne.mpr c01
    have c01b1 : (t01.1 != 0) = true := bne_iff_ne.mpr c01
    clear c01
    go_wp2_with fail
    obtain ⟨t02, HA02, H⟩ := bind_some H
    refine (ground_Ground_Word.calls l00 t01.2 a01 a02 a03 a04 (wrap64 (t01.1 - 1)) 5 g00 g01 A00 l00.length n00 t02 _ ⟨HS.out.begin⟩ HA02).mono ?_
    rintro e_ w04 ⟨rfl, hS⟩
    replace HS : Aside0 (Sep FF w [b7 g00 g01 a01 a02 a03 a04, b6 g01 A00 l00.length n00 t02.2, r5 A00 l00.length n00 l00, b10 g02 t00.1 t00.2.1 t00.2.2.1] w04) := ⟨HS.out.call hS⟩
    clear hS
    go_wp2_with fail
    obtain ⟨t03, HA03, H⟩ := bind_some H
    refine (ground_Ground_SetWord.calls l00 t02.2 a01 a02 a03 a04 (wrap64 (t01.1 - 1)) 5 0 g00 g01 A00 l00.length n00 t03 _ ⟨HS.out.begin⟩ HA03).mono ?_
    rintro e_ w05 ⟨rfl, hS⟩
    replace HS : Aside0 (Sep FF w [b7 g00 g01 a01 a02 a03 a04, b6 g01 A00 l00.length n00 t03.2.1, r5 A00 l00.length n00 t03.2.2, b10 g02 t00.1 t00.2.1 t00.2.2.1] w05) := ⟨HS.out.call hS⟩
    clear hS
    have hc04 : w05.cell? ⟨g02, 0, none⟩ = some (.int .i64 t00.1) := blk_cellv (HS.out.at3) 0 rfl
    go_wp2_with fail
    clear hc04
    obtain ⟨t04, HA04, H⟩ := bind_some H
    refine (ground_Ground_SetReg.calls t03.2.2 t03.2.1 a01 a02 a03 a04 t00.1 (wrap64 (t02.1)) g00 g01 A00 l00.length n00 t04 _ ⟨HS.out.begin⟩ HA04).mono ?_
    rintro e_ w06 ⟨rfl, hS⟩
    replace HS : Aside0 (Sep FF w [b7 g00 g01 a01 a02 a03 a04, b6 g01 A00 l00.length n00 t04.2.1, r5 A00 l00.length n00 t04.2.2, b10 g02 t00.1 t00.2.1 t00.2.2.1] w06) := ⟨HS.out.call hS⟩
    clear hS
    by_cases c02 : (wrap64 (t02.1)) = 0
    ·replace H := if_yes c02 H
     have c02b0 : ((wrap64 (t02.1)) == 0) = true := beq_iff_eq.mpr c02
     have c02b1 : ((wrap64 (t02.1)) != 0) = false := bne_eq_false_iff_eq.mpr c02
     clear c02
     have hc05 : w06.cell? ⟨g02, 1, none⟩ = some (.int .i64 t00.2.1) := blk_cellv (HS.out.at3) 1 rfl
     go_wp2_with fail
     clear hc05
     obtain ⟨t05, HA05, H⟩ := bind_some H
     refine (ground_Ground_SetReg.calls t04.2.2 t04.2.1 a01 a02 a03 a04 t00.2.1 0 g00 g01 A00 l00.length n00 t05 _ ⟨HS.out.begin⟩ HA05).mono ?_
     rintro e_ w07 ⟨rfl, hS⟩
     replace HS : Aside0 (Sep FF w [b7 g00 g01 a01 a02 a03 a04, b6 g01 A00 l00.length n00 t05.2.1, r5 A00 l00.length n00 t05.2.2, b10 g02 t00.1 t00.2.1 t00.2.2.1] w07) := ⟨HS.out.call hS⟩
     clear hS
     go_wp2_with fail
     refine start_ (n := 9) (S := (fun w' => w'.cell? ⟨g02, 2, none⟩ = some (.int .i64 t00.2.2.1))) (ds := []) #[false, false, false, false, false, false, false, false, false] (by kernel_rfl) rfl rfl (blk_cellv ((HS.out.drew).at3) 2 rfl) (fun hHeld => ?_)
     have HS_ := Aside0.mk HS.out.drew
     clear HS
     generalize World.drew _ = w08 at HS_ hHeld ⊢
     have HS := HS_
     clear HS_
     refine pure_ (i := 0) (N := some 44) (v := ?_) (a' := ?_) #[true, false, false, false, false, false, false, false, false] rfl rfl (by kernel_rfl) (fun _ _ _ h => h) (Or.inl ⟨by rfl, ?_⟩) ?_ ?_
     rotate_left
     ·intro w'
      go_simp
      with_reducible rfl
     rotate_left
     ·simp only [Act.put, List.setIfInBounds_toArray, List.set_cons_zero, List.set_cons_succ, i64_w, i32_w]
      rfl
     refine pure_ (i := 1) (N := some 45) (v := ?_) (a' := ?_) #[true, true, false, false, false, false, false, false, false] rfl rfl (by kernel_rfl) (fun _ _ _ h => h) (Or.inl ⟨by rfl, ?_⟩) ?_ ?_
     rotate_left
     ·intro w'
      go_simp
      with_reducible rfl
     rotate_left
     ·simp only [Act.put, List.setIfInBounds_toArray, List.set_cons_zero, List.set_cons_succ, i64_w, i32_w]
      rfl
     refine pure_ (i := 3) (N := some 47) (v := ?_) (a' := ?_) #[true, true, false, true, false, false, false, false, false] rfl rfl (by kernel_rfl) (fun _ _ _ h => h) (Or.inl ⟨by rfl, ?_⟩) ?_ ?_
     rotate_left
     ·intro w'
      go_simp
      with_reducible rfl
     rotate_left
     ·simp only [Act.put, List.setIfInBounds_toArray, List.set_cons_zero, List.set_cons_succ, i64_w, i32_w]
      rfl
     refine pure_ (i := 4) (N := some 48) (v := ?_) (a' := ?_) #[true, true, false, true, true, false, false, false, false] rfl rfl (by kernel_rfl) (fun _ _ _ h => h) (Or.inl ⟨by rfl, ?_⟩) ?_ ?_
     rotate_left
     ·intro w'
      go_simp
      with_reducible rfl
     rotate_left
     ·simp only [Act.put, List.setIfInBounds_toArray, List.set_cons_zero, List.set_cons_succ, i64_w, i32_w]
      rfl
     refine take_ (i := 2) (N := some 46) (v := ?_) (a' := ?_) #[true, true, true, true, true, false, false, false, false] rfl rfl (by kernel_rfl) (fun _ _ _ h => h) (Or.inl ⟨by rfl, ?_⟩) hHeld ?_ ?_
     rotate_left
     ·rintro w' hS'
      have s0 := hS'
      go_simp
      with_reducible rfl
     rotate_left
     ·simp only [Act.put, List.setIfInBounds_toArray, List.set_cons_zero, List.set_cons_succ, i64_w, i32_w]
      rfl
     refine take_ (i := 5) (N := some 49) (v := ?_) (a' := ?_) #[true, true, true, true, true, true, false, false, false] rfl rfl (by kernel_rfl) (fun _ _ _ h => h) (Or.inl ⟨by rfl, ?_⟩) hHeld ?_ ?_
     rotate_left
     ·rintro w' hS'
      have s0 := hS'
      go_simp
      with_reducible rfl
     rotate_left
     ·simp only [Act.put, List.setIfInBounds_toArray, List.set_cons_zero, List.set_cons_succ, i64_w, i32_w]
      rfl
     refine one_ (i := 6) (N := some 50) #[true, true, true, true, true, true, true, false, false] rfl rfl (by kernel_rfl) (by decide) (fun K hK => ?_)
     obtain ⟨t06, HA06, H⟩ := bind_some H
     refine goes_ Try.func36 (by kernel_rfl) rfl #[.pointer (some ⟨g00, 0, none⟩), .int .i64 t00.2.2.1] (by rfl) rfl rfl (by (try simp only [List.map_toArray, List.map_cons, List.map_nil]); first | done | rfl) ?_
     refine (ground_Ground_Reg.calls t05.2.2 t05.2.1 a01 a02 a03 a04 t00.2.2.1 g00 g01 A00 l00.length n00 t06 _ ⟨HS.out.begin⟩ HA06).mono ?_
     rintro e_ w09 ⟨rfl, hS⟩
     replace HS : Aside0 (Sep FF w [b7 g00 g01 a01 a02 a03 a04, b6 g01 A00 l00.length n00 t06.2, r5 A00 l00.length n00 t05.2.2, b10 g02 t00.1 t00.2.1 t00.2.2.1] w09) := ⟨HS.out.call hS⟩
     clear hS
     refine ⟨_, rfl, ?_⟩
     refine hK.out _ _ (blk_cellv (HS.out.at3) 2 rfl) (fun hHeld => ?_)
     clear hK K
     refine norm_ (a' := ?_) ?_ ?_
     rotate_left
     ·show Act.put _ (some 50) _ = _
      simp only [Act.put, List.setIfInBounds_toArray, List.set_cons_zero, List.set_cons_succ, i64_w, i32_w]
      rfl
     refine pure_ (i := 7) (N := some 51) (v := ?_) (a' := ?_) #[true, true, true, true, true, true, true, true, false] rfl rfl (by kernel_rfl) (fun _ _ _ h => h) (Or.inl ⟨by rfl, ?_⟩) ?_ ?_
     rotate_left
     ·intro w'
      go_simp
      with_reducible rfl
     rotate_left
     ·simp only [Act.put, List.setIfInBounds_toArray, List.set_cons_zero, List.set_cons_succ, i64_w, i32_w]
      rfl
     refine one_ (i := 8) (N := some 52) #[true, true, true, true, true, true, true, true, true] rfl rfl (by kernel_rfl) (by decide) (fun K hK => ?_)
     obtain ⟨t07, HA07, H⟩ := bind_some H
     refine goes_ Try.func42 (by kernel_rfl) rfl #[.pointer (some ⟨g00, 0, none⟩), .int .i64 t00.2.2.1, .int .i64 (wrap64 (t06.1 - 1))] (by rfl) rfl rfl (by (try simp only [List.map_toArray, List.map_cons, List.map_nil]); first | done | rfl) ?_
     refine (ground_Ground_SetReg.calls t05.2.2 t06.2 a01 a02 a03 a04 t00.2.2.1 (wrap64 (t06.1 - 1)) g00 g01 A00 l00.length n00 t07 _ ⟨HS.out.begin⟩ HA07).mono ?_
     rintro e_ w10 ⟨rfl, hS⟩
     replace HS : Aside0 (Sep FF w [b7 g00 g01 a01 a02 a03 a04, b6 g01 A00 l00.length n00 t07.2.1, r5 A00 l00.length n00 t07.2.2, b10 g02 t00.1 t00.2.1 t00.2.2.1] w10) := ⟨HS.out.call hS⟩
     clear hS
     refine ⟨_, rfl, ?_⟩
     refine hK.out _ _ (blk_cellv (HS.out.at3) 2 rfl) (fun hHeld => ?_)
     clear hK K
     refine norm_ (a' := ?_) ?_ ?_
     rotate_left
     ·show Act.put _ (some 52) _ = _
      simp only [Act.put, List.setIfInBounds_toArray, List.set_cons_zero, List.set_cons_succ, i64_w, i32_w]
      rfl
     refine done_ (by kernel_rfl) ?_
     replace HS : Aside0 (Sep FF w [b7 g00 g01 a01 a02 a03 a04, b6 g01 A00 l00.length n00 t07.2.1, r5 A00 l00.length n00 t07.2.2] w10) := ⟨HS.out.sub (.cons_cons _ (.cons_cons _ (.cons_cons _ (.cons _ .slnil))))⟩
     go_wp2_with fail
     go_ret2
     rw [← some_eq H]
     exact ⟨(by first | rfl | (simp [IntKind.wrap_u32]; done)), HS.out⟩
    ·replace H := if_no c02 H
     have c02b0 : ((wrap64 (t02.1)) == 0) = false := beq_eq_false_iff_ne.mpr c02
     have c02b1 : ((wrap64 (t02.1)) != 0) = true := bne_iff_ne.mpr c02
     clear c02
     go_wp2_with fail
     refine start_ (n := 9) (S := (fun w' => w'.cell? ⟨g02, 2, none⟩ = some (.int .i64 t00.2.2.1))) (ds := []) #[false, false, false, false, false, false, false, false, false] (by kernel_rfl) rfl rfl (blk_cellv ((HS.out.drew).at3) 2 rfl) (fun hHeld => ?_)
     have HS_ := Aside0.mk HS.out.drew
     clear HS
     generalize World.drew _ = w11 at HS_ hHeld ⊢
     have HS := HS_
     clear HS_
     refine pure_ (i := 0) (N := some 44) (v := ?_) (a' := ?_) #[true, false, false, false, false, false, false, false, false] rfl rfl (by kernel_rfl) (fun _ _ _ h => h) (Or.inl ⟨by rfl, ?_⟩) ?_ ?_
     rotate_left
     ·intro w'
      go_simp
      with_reducible rfl
     rotate_left
     ·simp only [Act.put, List.setIfInBounds_toArray, List.set_cons_zero, List.set_cons_succ, i64_w, i32_w]
      rfl
     refine pure_ (i := 1) (N := some 45) (v := ?_) (a' := ?_) #[true, true, false, false, false, false, false, false, false] rfl rfl (by kernel_rfl) (fun _ _ _ h => h) (Or.inl ⟨by rfl, ?_⟩) ?_ ?_
     rotate_left
     ·intro w'
      go_simp
      with_reducible rfl
     rotate_left
     ·simp only [Act.put, List.setIfInBounds_toArray, List.set_cons_zero, List.set_cons_succ, i64_w, i32_w]
      rfl
     refine pure_ (i := 3) (N := some 47) (v := ?_) (a' := ?_) #[true, true, false, true, false, false, false, false, false] rfl rfl (by kernel_rfl) (fun _ _ _ h => h) (Or.inl ⟨by rfl, ?_⟩) ?_ ?_
     rotate_left
     ·intro w'
      go_simp
      with_reducible rfl
     rotate_left
     ·simp only [Act.put, List.setIfInBounds_toArray, List.set_cons_zero, List.set_cons_succ, i64_w, i32_w]
      rfl
     refine pure_ (i := 4) (N := some 48) (v := ?_) (a' := ?_) #[true, true, false, true, true, false, false, false, false] rfl rfl (by kernel_rfl) (fun _ _ _ h => h) (Or.inl ⟨by rfl, ?_⟩) ?_ ?_
     rotate_left
     ·intro w'
      go_simp
      with_reducible rfl
     rotate_left
     ·simp only [Act.put, List.setIfInBounds_toArray, List.set_cons_zero, List.set_cons_succ, i64_w, i32_w]
      rfl
     refine take_ (i := 2) (N := some 46) (v := ?_) (a' := ?_) #[true, true, true, true, true, false, false, false, false] rfl rfl (by kernel_rfl) (fun _ _ _ h => h) (Or.inl ⟨by rfl, ?_⟩) hHeld ?_ ?_
     rotate_left
     ·rintro w' hS'
      have s0 := hS'
      go_simp
      with_reducible rfl
     rotate_left
     ·simp only [Act.put, List.setIfInBounds_toArray, List.set_cons_zero, List.set_cons_succ, i64_w, i32_w]
      rfl
     refine take_ (i := 5) (N := some 49) (v := ?_) (a' := ?_) #[true, true, true, true, true, true, false, false, false] rfl rfl (by kernel_rfl) (fun _ _ _ h => h) (Or.inl ⟨by rfl, ?_⟩) hHeld ?_ ?_
     rotate_left
     ·rintro w' hS'
      have s0 := hS'
      go_simp
      with_reducible rfl
     rotate_left
     ·simp only [Act.put, List.setIfInBounds_toArray, List.set_cons_zero, List.set_cons_succ, i64_w, i32_w]
      rfl
     refine one_ (i := 6) (N := some 50) #[true, true, true, true, true, true, true, false, false] rfl rfl (by kernel_rfl) (by decide) (fun K hK => ?_)
     obtain ⟨t06, HA08, H⟩ := bind_some H
     refine goes_ Try.func36 (by kernel_rfl) rfl #[.pointer (some ⟨g00, 0, none⟩), .int .i64 t00.2.2.1] (by rfl) rfl rfl (by (try simp only [List.map_toArray, List.map_cons, List.map_nil]); first | done | rfl) ?_
     refine (ground_Ground_Reg.calls t04.2.2 t04.2.1 a01 a02 a03 a04 t00.2.2.1 g00 g01 A00 l00.length n00 t06 _ ⟨HS.out.begin⟩ HA08).mono ?_
     rintro e_ w12 ⟨rfl, hS⟩
     replace HS : Aside0 (Sep FF w [b7 g00 g01 a01 a02 a03 a04, b6 g01 A00 l00.length n00 t06.2, r5 A00 l00.length n00 t04.2.2, b10 g02 t00.1 t00.2.1 t00.2.2.1] w12) := ⟨HS.out.call hS⟩
     clear hS
     refine ⟨_, rfl, ?_⟩
     refine hK.out _ _ (blk_cellv (HS.out.at3) 2 rfl) (fun hHeld => ?_)
     clear hK K
     refine norm_ (a' := ?_) ?_ ?_
     rotate_left
     ·show Act.put _ (some 50) _ = _
      simp only [Act.put, List.setIfInBounds_toArray, List.set_cons_zero, List.set_cons_succ, i64_w, i32_w]
      rfl
     refine pure_ (i := 7) (N := some 51) (v := ?_) (a' := ?_) #[true, true, true, true, true, true, true, true, false] rfl rfl (by kernel_rfl) (fun _ _ _ h => h) (Or.inl ⟨by rfl, ?_⟩) ?_ ?_
     rotate_left
     ·intro w'
      go_simp
      with_reducible rfl
     rotate_left
     ·simp only [Act.put, List.setIfInBounds_toArray, List.set_cons_zero, List.set_cons_succ, i64_w, i32_w]
      rfl
     refine one_ (i := 8) (N := some 52) #[true, true, true, true, true, true, true, true, true] rfl rfl (by kernel_rfl) (by decide) (fun K hK => ?_)
     obtain ⟨t07, HA09, H⟩ := bind_some H
     refine goes_ Try.func42 (by kernel_rfl) rfl #[.pointer (some ⟨g00, 0, none⟩), .int .i64 t00.2.2.1, .int .i64 (wrap64 (t06.1 - 1))] (by rfl) rfl rfl (by (try simp only [List.map_toArray, List.map_cons, List.map_nil]); first | done | rfl) ?_
     refine (ground_Ground_SetReg.calls t04.2.2 t06.2 a01 a02 a03 a04 t00.2.2.1 (wrap64 (t06.1 - 1)) g00 g01 A00 l00.length n00 t07 _ ⟨HS.out.begin⟩ HA09).mono ?_
     rintro e_ w13 ⟨rfl, hS⟩
     replace HS : Aside0 (Sep FF w [b7 g00 g01 a01 a02 a03 a04, b6 g01 A00 l00.length n00 t07.2.1, r5 A00 l00.length n00 t07.2.2, b10 g02 t00.1 t00.2.1 t00.2.2.1] w13) := ⟨HS.out.call hS⟩
     clear hS
     refine ⟨_, rfl, ?_⟩
     refine hK.out _ _ (blk_cellv (HS.out.at3) 2 rfl) (fun hHeld => ?_)
     clear hK K
     refine norm_ (a' := ?_) ?_ ?_
     rotate_left
     ·show Act.put _ (some 52) _ = _
      simp only [Act.put, List.setIfInBounds_toArray, List.set_cons_zero, List.set_cons_succ, i64_w, i32_w]
      rfl
     refine done_ (by kernel_rfl) ?_
     replace HS : Aside0 (Sep FF w [b7 g00 g01 a01 a02 a03 a04, b6 g01 A00 l00.length n00 t07.2.1, r5 A00 l00.length n00 t07.2.2] w13) := ⟨HS.out.sub (.cons_cons _ (.cons_cons _ (.cons_cons _ (.cons _ .slnil))))⟩
     go_wp2_with fail
     go_ret2
     rw [← some_eq H]
     exact ⟨(by first | rfl | (simp [IntKind.wrap_u32]; done)), HS.out⟩
  ·replace H := if_no c00 H
   have c00b0 : t00.2.2.2 = false := by simpa using c00
   have c00b1 : (!t00.2.2.2) = true := by rw [c00b0]; rfl
   try rw [c00b1]
   clear c00
   go_wp2_with (first | ((with_reducible refine gate_dst (N := 6) rfl ?_); refine box_on ?hg (N := 6) ?hd (cs := #[.int .i64 0, .int .i64 0, .int .i64 0]) (t := 134) ?hr ?_; (case hd => rfl); (case hg => rfl); (case hr => first | (go_simp; done) | (go_simp; rfl)); intro g02 hg w01 hbox hb; replace HS : Aside0 (Sep FF w [b7 g00 g01 a01 a02 a03 a04, b6 g01 A00 l00.length n00 a00, r5 A00 l00.length n00 l00, b10 g02 0 0 0] w01) := ⟨HS.out.box hg hbox hb⟩; clear hg hbox hb; have hc00 : w01.cell? ⟨g02, 0, none⟩ = some (.int .i64 0) := blk_cellv (HS.out.at3) 0 rfl; have hz00 : w01.frozen? ⟨g02, 0, none⟩ = false := blk_fz (HS.out.at3) 0; have hc01 : w01.cell? ⟨g02, 1, none⟩ = some (.int .i64 0) := blk_cellv (HS.out.at3) 1 rfl; have hz01 : w01.frozen? ⟨g02, 1, none⟩ = false := blk_fz (HS.out.at3) 1; have hc02 : w01.cell? ⟨g02, 2, none⟩ = some (.int .i64 0) := blk_cellv (HS.out.at3) 2 rfl; have hz02 : w01.frozen? ⟨g02, 2, none⟩ = false := blk_fz (HS.out.at3) 2) | ((with_reducible refine gate_store (t := 134) (p := 6) rfl ?_); refine store_event (w1 := (World.setCell (World.setCell (World.setCell w01 ⟨g02, 0, none⟩ (.int .i64 t00.1)) ⟨g02, 1, none⟩ (.int .i64 t00.2.1)) ⟨g02, 2, none⟩ (.int .i64 t00.2.2.1))) rfl (t := 134) (p := 6) rfl rfl ?hr ?_; (case hr => first | (go_simp; done) | (go_simp; rfl)); intro w02 hst; clear hc00 hz00 hc01 hz01 hc02 hz02; replace HS : Aside0 (Sep FF w [b7 g00 g01 a01 a02 a03 a04, b6 g01 A00 l00.length n00 a00, r5 A00 l00.length n00 l00, b10 g02 t00.1 t00.2.1 t00.2.2.1] w02) := ⟨by rw [hst]; exact HS.out.setAll (l1 := [b7 g00 g01 a01 a02 a03 a04, b6 g01 A00 l00.length n00 a00, r5 A00 l00.length n00 l00]) (l2 := []) [.int .i64 t00.1, .int .i64 t00.2.1, .int .i64 t00.2.2.1] rfl⟩; clear hst; replace HS : Aside0 (Sep FF w [b7 g00 g01 a01 a02 a03 a04, b6 g01 A00 l00.length n00 a00, r5 A00 l00.length n00 l00] w02) := ⟨HS.out.sub (.cons_cons _ (.cons_cons _ (.cons_cons _ (.cons _ .slnil))))⟩))
   go_ret2
   rw [← some_eq H]
   exact ⟨(by first | rfl | (simp [IntKind.wrap_u32]; done)), HS.out⟩

set_option maxHeartbeats 30000000 in
set_option maxRecDepth 100000 in
theorem quitrentref08_Rest.calls (k : Nat) (l00 : List Int) (A00 : Option Addr) (n00 : Nat) (r : List Int) (w : World) (HR00 : Aside0 (Rd (Kd.int .i64) (fps []) w A00 l00.length l00))  (HS : Aside0 (Sep (fps []) w [] w)) (H : Aside0 (quitrentref08_Rest.f k l00 = some r)) :
    Calls Try.prog 97 #[.slice A00 l00.length n00] w fun e w' => ∃ (A01 : Option Addr) (m00 : Nat) (n01 : Nat), e = .returned (.slice A01 m00 n01) ∧ Sep (fps []) w [r11 A01 m00 n01 r] w' := by
  unfold quitrentref08_Rest.f at H
  go_enter Try.func97, Try.ntmps97
  go_wp2_with fail
  replace HS : Aside0 (Sep (fps []) w [r11 none 0 0 []] w) := ⟨HS.out.nilrow 3 (Value.int .i64)⟩
  obtain ⟨o00, AL00, H⟩ := bind_some H
  go_loopg [3, 4] k (fun kq v3 v4 wc => ∃ (x00 : Int) (x01 : List Int) (A02 : Option Addr) (m01 : Nat) (n02 : Nat), v3 = .slice A02 m01 n02 ∧ v4 = .int .i64 x00 ∧ Aside0 (quitrentref08_Rest.lo0 kq l00 x00 x01 = some o00) ∧ Aside0 (Sep (fps []) w [r11 A02 m01 n02 x01] wc))
  case atStart => exact ⟨(1), (([] : List Int)), (none), (0), (0), (by first | rfl | (simp [IntKind.wrap_u32]; done)), (by first | rfl | (simp [IntKind.wrap_u32]; done)), AL00, ⟨HS.out⟩⟩
  case round =>
    clear AL00 HS
    obtain ⟨x00, x01, A02, m01, n02, rfl, rfl, AL00, HS⟩ := hrel
    obtain ⟨w00, rfl⟩ : ∃ x : World, x = wr := ⟨_, rfl⟩
    obtain rfl := (row_len (HS.out.at0)).symm
    cases gk with
    | zero => exact absurd AL00.out (by simp [quitrentref08_Rest.lo0])
    | succ k00 =>
      have AL0 := AL00.out
      rw [quitrentref08_Rest.lo0] at AL0
      clear AL00
      have AL00 := Aside0.mk AL0
      clear AL0
      by_cases c00 : x00 < (l00.length : Int)
      ·replace AL00 := if_yes c00 AL00
       have c00b0 : decide (x00 < (l00.length : Int)) = true := decide_eq_true c00
       clear c00
       by_cases c01 : 0 ≤ x00
       ·replace AL00 := if_yes c01 AL00
        have c01b0 : decide (0 ≤ x00) = true := decide_eq_true c01
        have c01p : (0 ≤ x00) = True := eq_true c01
        clear c01
        have ip00 : (x00 < (l00.length : Int)) = True := eq_true (of_decide_eq_true c00b0)
        by_cases c02 : x01.length < 17592186044416
        ·replace AL00 := if_yes c02 AL00
         have c02b0 : decide (x01.length < 17592186044416) = true := decide_eq_true c02
         clear c02
         obtain ⟨y00, HA00, AL00⟩ := bind_some AL00
         obtain ⟨hx00a, hx00e, hx00⟩ := Kd.at_int (Rd.read (fun _ _ _ _ h => h) HR00.out HS.out.fr) x00 (of_decide_eq_true c01b0) (of_decide_eq_true c00b0); cases hx00e
         go_wp2_with (first | ((with_reducible refine gate_dst (N := 16) rfl ?_); refine slice_on (n := 1) ?hg (N := 16) ?hd (cs := #[.int .i64 (rd l00 x00)]) (t := 3) ?hr ?_; (case hd => rfl); (case hg => rfl); (case hr => first | (go_simp; done) | (go_simp; rfl)); intro g00 hg w01 hbox hb; clear hx00; replace HS : Aside0 (Sep (fps []) w [r11 A02 x01.length n02 x01, b9 g00 (rd l00 x00)] w01) := ⟨HS.out.box hg hbox hb⟩; clear hg hbox hb) | ((with_reducible refine gate_dst (N := 17) rfl ?_); refine append_event (l1 := []) (l2 := [b9 g00 (rd l00 x00)]) rfl (.tmp 11) (.tmp 16) 78 3 (.int .i64 0) 8 rfl Try.underlying78 (by kernel_rfl) rfl (by decide) (Value.int .i64) (fun _ => rfl) (.slice A02 x01.length n02) (x01 : List Int) [rd l00 x00] ⟨g00, 0, none⟩ 1 rfl rfl (blk_news (xs := [rd l00 x00]) (HS.out.at1)) HS.out (by have := of_decide_eq_true c02b0; simp only [List.length_cons, List.length_nil]; omega) HA00 ?_; intro A03 n03 w02 HS1; replace HS : Aside0 (Sep (fps []) w [r11 A03 y00.length n03 y00, b9 g00 (rd l00 x00)] w02) := ⟨HS1⟩; clear HS1; replace HS : Aside0 (Sep (fps []) w [r11 A03 y00.length n03 y00] w02) := ⟨HS.out.sub (.cons_cons _ (.cons _ .slnil))⟩))
         go_roundg k00
         case measure => exact Nat.lt_succ_self _
         case rel => exact ⟨(wrap64 (x00 + 1)), (y00), (A03), (y00.length), (n03), (by first | rfl | (simp [IntKind.wrap_u32]; done)), (by first | rfl | (simp [IntKind.wrap_u32]; done)), Aside0.mk AL00.out, ⟨HS.out⟩⟩
        ·replace AL00 := if_no c02 AL00
         have c02b0 : decide (x01.length < 17592186044416) = false := decide_eq_false c02
         clear c02
         exact (none_no AL00).elim
       ·replace AL00 := if_no c01 AL00
        have c01b0 : decide (0 ≤ x00) = false := decide_eq_false c01
        clear c01
        exact (none_no AL00).elim
      ·replace AL00 := if_no c00 AL00
       have c00b0 : decide (x00 < (l00.length : Int)) = false := decide_eq_false c00
       clear c00
       have ho := some_eq AL00
       subst ho
       clear AL00
       go_wp2_with fail
       go_ret
       rw [← some_eq H]
       exact ⟨A02, x01.length, n02, (by first | rfl | (simp [IntKind.wrap_u32]; done)), HS.out⟩

set_option maxHeartbeats 30000000 in
set_option maxRecDepth 100000 in
theorem chain_First.calls (l00 : List Int) (a00 : Int) (a01 : Int) (a02 : Int) (a03 : Int) (a04 : Int) (a05 : Int) (g00 : Nat) (g01 : Nat) (A00 : Option Addr) (m00 : Nat) (n00 : Nat) (r : Int × Bool × Int) (w : World)   (HS : Aside0 (Sep (fps [b7 g00 g01 a01 a02 a03 a04, b6 g01 A00 m00 n00 a00, r5 A00 m00 n00 l00]) w [b7 g00 g01 a01 a02 a03 a04, b6 g01 A00 m00 n00 a00, r5 A00 m00 n00 l00] w)) (H : Aside0 (chain_First.f l00 a00 a01 a02 a03 a04 a05 = some r)) :
    Calls Try.prog 57 #[.pointer (some ⟨g00, 0, none⟩), .int .i64 a05] w fun e w' => e = .returned (.tuple #[.int .i64 r.1, .bool r.2.1]) ∧ Sep (fps [b7 g00 g01 a01 a02 a03 a04, b6 g01 A00 m00 n00 a00, r5 A00 m00 n00 l00]) w [b7 g00 g01 a01 a02 a03 a04, b6 g01 A00 m00 n00 r.2.2, r5 A00 m00 n00 l00] w' := by
  generalize (fps [b7 g00 g01 a01 a02 a03 a04, b6 g01 A00 m00 n00 a00, r5 A00 m00 n00 l00]) = FF at HS ⊢
  obtain rfl := (row_len (HS.out.at2)).symm
  unfold chain_First.f at H
  go_enter Try.func57, Try.ntmps57
  go_wp2_with fail
  obtain ⟨t00, HA00, H⟩ := bind_some H
  refine (chain_of.calls l00 a00 a01 a02 a03 a04 a05 g00 g01 A00 l00.length n00 t00 _ ⟨HS.out.begin⟩ HA00).mono ?_
  rintro e_ w00 ⟨rfl, hS⟩
  replace HS : Aside0 (Sep FF w [b7 g00 g01 a01 a02 a03 a04, b6 g01 A00 l00.length n00 a00, r5 A00 l00.length n00 l00] w00) := ⟨HS.out.call hS⟩
  clear hS
  by_cases c00 : t00.2.2.2 = true
  ·replace H := if_yes c00 H
   have c00b0 : t00.2.2.2 = true := c00
   have c00b1 : (!t00.2.2.2) = false := by rw [c00b0]; rfl
   try rw [c00b1]
   clear c00
   go_wp2_with (first | ((with_reducible refine gate_dst (N := 6) rfl ?_); refine box_on ?hg (N := 6) ?hd (cs := #[.int .i64 0, .int .i64 0, .int .i64 0]) (t := 134) ?hr ?_; (case hd => rfl); (case hg => rfl); (case hr => first | (go_simp; done) | (go_simp; rfl)); intro g02 hg w01 hbox hb; replace HS : Aside0 (Sep FF w [b7 g00 g01 a01 a02 a03 a04, b6 g01 A00 l00.length n00 a00, r5 A00 l00.length n00 l00, b10 g02 0 0 0] w01) := ⟨HS.out.box hg hbox hb⟩; clear hg hbox hb; have hc00 : w01.cell? ⟨g02, 0, none⟩ = some (.int .i64 0) := blk_cellv (HS.out.at3) 0 rfl; have hz00 : w01.frozen? ⟨g02, 0, none⟩ = false := blk_fz (HS.out.at3) 0; have hc01 : w01.cell? ⟨g02, 1, none⟩ = some (.int .i64 0) := blk_cellv (HS.out.at3) 1 rfl; have hz01 : w01.frozen? ⟨g02, 1, none⟩ = false := blk_fz (HS.out.at3) 1; have hc02 : w01.cell? ⟨g02, 2, none⟩ = some (.int .i64 0) := blk_cellv (HS.out.at3) 2 rfl; have hz02 : w01.frozen? ⟨g02, 2, none⟩ = false := blk_fz (HS.out.at3) 2) | ((with_reducible refine gate_store (t := 134) (p := 6) rfl ?_); refine store_event (w1 := (World.setCell (World.setCell (World.setCell w01 ⟨g02, 0, none⟩ (.int .i64 t00.1)) ⟨g02, 1, none⟩ (.int .i64 t00.2.1)) ⟨g02, 2, none⟩ (.int .i64 t00.2.2.1))) rfl (t := 134) (p := 6) rfl rfl ?hr ?_; (case hr => first | (go_simp; done) | (go_simp; rfl)); intro w02 hst; clear hc00 hz00 hc01 hz01 hc02 hz02; replace HS : Aside0 (Sep FF w [b7 g00 g01 a01 a02 a03 a04, b6 g01 A00 l00.length n00 a00, r5 A00 l00.length n00 l00, b10 g02 t00.1 t00.2.1 t00.2.2.1] w02) := ⟨by rw [hst]; exact HS.out.setAll (l1 := [b7 g00 g01 a01 a02 a03 a04, b6 g01 A00 l00.length n00 a00, r5 A00 l00.length n00 l00]) (l2 := []) [.int .i64 t00.1, .int .i64 t00.2.1, .int .i64 t00.2.2.1] rfl⟩; clear hst; have hc03 : w02.cell? ⟨g02, 0, none⟩ = some (.int .i64 t00.1) := blk_cellv (HS.out.at3) 0 rfl))
   clear hc03
   obtain ⟨t01, HA01, H⟩ := bind_some H
   refine (ground_Ground_Reg.calls l00 a00 a01 a02 a03 a04 t00.1 g00 g01 A00 l00.length n00 t01 _ ⟨HS.out.begin⟩ HA01).mono ?_
   rintro e_ w03 ⟨rfl, hS⟩
   replace HS : Aside0 (Sep FF w [b7 g00 g01 a01 a02 a03 a04, b6 g01 A00 l00.length n00 t01.2, r5 A00 l00.length n00 l00, b10 g02 t00.1 t00.2.1 t00.2.2.1] w03) := ⟨HS.out.call hS⟩
   clear hS
   by_cases c01 : (wrap64 (t01.1 - 1)) < 0
   ·replace H := if_yes c01 H
    have c01b0 : decide ((wrap64 (t01.1 - 1)) < 0) = true := decide_eq_true c01
    replace HS : Aside0 (Sep FF w [b7 g00 g01 a01 a02 a03 a04, b6 g01 A00 l00.length n00 t01.2, r5 A00 l00.length n00 l00] w03) := ⟨HS.out.sub (.cons_cons _ (.cons_cons _ (.cons_cons _ (.cons _ .slnil))))⟩
    skip
    go_wp2_with fail
    clear c01
    go_ret2
    rw [← some_eq H]
    exact ⟨(by first | rfl | (simp [IntKind.wrap_u32]; done)), HS.out⟩
   ·replace H := if_no c01 H
    have c01b0 : decide ((wrap64 (t01.1 - 1)) < 0) = false := decide_eq_false c01
    replace HS : Aside0 (Sep FF w [b7 g00 g01 a01 a02 a03 a04, b6 g01 A00 l00.length n00 t01.2, r5 A00 l00.length n00 l00] w03) := ⟨HS.out.sub (.cons_cons _ (.cons_cons _ (.cons_cons _ (.cons _ .slnil))))⟩
    skip
    go_wp2_with fail
    clear c01
    go_ret2
    rw [← some_eq H]
    exact ⟨(by first | rfl | (simp [IntKind.wrap_u32]; done)), HS.out⟩
  ·replace H := if_no c00 H
   have c00b0 : t00.2.2.2 = false := by simpa using c00
   have c00b1 : (!t00.2.2.2) = true := by rw [c00b0]; rfl
   try rw [c00b1]
   clear c00
   go_wp2_with (first | ((with_reducible refine gate_dst (N := 6) rfl ?_); refine box_on ?hg (N := 6) ?hd (cs := #[.int .i64 0, .int .i64 0, .int .i64 0]) (t := 134) ?hr ?_; (case hd => rfl); (case hg => rfl); (case hr => first | (go_simp; done) | (go_simp; rfl)); intro g02 hg w01 hbox hb; replace HS : Aside0 (Sep FF w [b7 g00 g01 a01 a02 a03 a04, b6 g01 A00 l00.length n00 a00, r5 A00 l00.length n00 l00, b10 g02 0 0 0] w01) := ⟨HS.out.box hg hbox hb⟩; clear hg hbox hb; have hc00 : w01.cell? ⟨g02, 0, none⟩ = some (.int .i64 0) := blk_cellv (HS.out.at3) 0 rfl; have hz00 : w01.frozen? ⟨g02, 0, none⟩ = false := blk_fz (HS.out.at3) 0; have hc01 : w01.cell? ⟨g02, 1, none⟩ = some (.int .i64 0) := blk_cellv (HS.out.at3) 1 rfl; have hz01 : w01.frozen? ⟨g02, 1, none⟩ = false := blk_fz (HS.out.at3) 1; have hc02 : w01.cell? ⟨g02, 2, none⟩ = some (.int .i64 0) := blk_cellv (HS.out.at3) 2 rfl; have hz02 : w01.frozen? ⟨g02, 2, none⟩ = false := blk_fz (HS.out.at3) 2) | ((with_reducible refine gate_store (t := 134) (p := 6) rfl ?_); refine store_event (w1 := (World.setCell (World.setCell (World.setCell w01 ⟨g02, 0, none⟩ (.int .i64 t00.1)) ⟨g02, 1, none⟩ (.int .i64 t00.2.1)) ⟨g02, 2, none⟩ (.int .i64 t00.2.2.1))) rfl (t := 134) (p := 6) rfl rfl ?hr ?_; (case hr => first | (go_simp; done) | (go_simp; rfl)); intro w02 hst; clear hc00 hz00 hc01 hz01 hc02 hz02; replace HS : Aside0 (Sep FF w [b7 g00 g01 a01 a02 a03 a04, b6 g01 A00 l00.length n00 a00, r5 A00 l00.length n00 l00, b10 g02 t00.1 t00.2.1 t00.2.2.1] w02) := ⟨by rw [hst]; exact HS.out.setAll (l1 := [b7 g00 g01 a01 a02 a03 a04, b6 g01 A00 l00.length n00 a00, r5 A00 l00.length n00 l00]) (l2 := []) [.int .i64 t00.1, .int .i64 t00.2.1, .int .i64 t00.2.2.1] rfl⟩; clear hst; replace HS : Aside0 (Sep FF w [b7 g00 g01 a01 a02 a03 a04, b6 g01 A00 l00.length n00 a00, r5 A00 l00.length n00 l00] w02) := ⟨HS.out.sub (.cons_cons _ (.cons_cons _ (.cons_cons _ (.cons _ .slnil))))⟩))
   go_ret2
   rw [← some_eq H]
   exact ⟨(by first | rfl | (simp [IntKind.wrap_u32]; done)), HS.out⟩

set_option maxHeartbeats 30000000 in
set_option maxRecDepth 100000 in
theorem chain_Len.calls (l00 : List Int) (a00 : Int) (a01 : Int) (a02 : Int) (a03 : Int) (a04 : Int) (a05 : Int) (g00 : Nat) (g01 : Nat) (A00 : Option Addr) (m00 : Nat) (n00 : Nat) (r : Int × Int) (w : World)   (HS : Aside0 (Sep (fps [b7 g00 g01 a01 a02 a03 a04, b6 g01 A00 m00 n00 a00, r5 A00 m00 n00 l00]) w [b7 g00 g01 a01 a02 a03 a04, b6 g01 A00 m00 n00 a00, r5 A00 m00 n00 l00] w)) (H : Aside0 (chain_Len.f l00 a00 a01 a02 a03 a04 a05 = some r)) :
    Calls Try.prog 55 #[.pointer (some ⟨g00, 0, none⟩), .int .i64 a05] w fun e w' => e = .returned (.int .i64 r.1) ∧ Sep (fps [b7 g00 g01 a01 a02 a03 a04, b6 g01 A00 m00 n00 a00, r5 A00 m00 n00 l00]) w [b7 g00 g01 a01 a02 a03 a04, b6 g01 A00 m00 n00 r.2, r5 A00 m00 n00 l00] w' := by
  generalize (fps [b7 g00 g01 a01 a02 a03 a04, b6 g01 A00 m00 n00 a00, r5 A00 m00 n00 l00]) = FF at HS ⊢
  obtain rfl := (row_len (HS.out.at2)).symm
  unfold chain_Len.f at H
  go_enter Try.func55, Try.ntmps55
  go_wp2_with fail
  obtain ⟨t00, HA00, H⟩ := bind_some H
  refine (chain_of.calls l00 a00 a01 a02 a03 a04 a05 g00 g01 A00 l00.length n00 t00 _ ⟨HS.out.begin⟩ HA00).mono ?_
  rintro e_ w00 ⟨rfl, hS⟩
  replace HS : Aside0 (Sep FF w [b7 g00 g01 a01 a02 a03 a04, b6 g01 A00 l00.length n00 a00, r5 A00 l00.length n00 l00] w00) := ⟨HS.out.call hS⟩
  clear hS
  by_cases c00 : t00.2.2.2 = true
  ·replace H := if_yes c00 H
   have c00b0 : t00.2.2.2 = true := c00
   have c00b1 : (!t00.2.2.2) = false := by rw [c00b0]; rfl
   try rw [c00b1]
   clear c00
   go_wp2_with (first | ((with_reducible refine gate_dst (N := 5) rfl ?_); refine box_on ?hg (N := 5) ?hd (cs := #[.int .i64 0, .int .i64 0, .int .i64 0]) (t := 134) ?hr ?_; (case hd => rfl); (case hg => rfl); (case hr => first | (go_simp; done) | (go_simp; rfl)); intro g02 hg w01 hbox hb; replace HS : Aside0 (Sep FF w [b7 g00 g01 a01 a02 a03 a04, b6 g01 A00 l00.length n00 a00, r5 A00 l00.length n00 l00, b10 g02 0 0 0] w01) := ⟨HS.out.box hg hbox hb⟩; clear hg hbox hb; have hc00 : w01.cell? ⟨g02, 0, none⟩ = some (.int .i64 0) := blk_cellv (HS.out.at3) 0 rfl; have hz00 : w01.frozen? ⟨g02, 0, none⟩ = false := blk_fz (HS.out.at3) 0; have hc01 : w01.cell? ⟨g02, 1, none⟩ = some (.int .i64 0) := blk_cellv (HS.out.at3) 1 rfl; have hz01 : w01.frozen? ⟨g02, 1, none⟩ = false := blk_fz (HS.out.at3) 1; have hc02 : w01.cell? ⟨g02, 2, none⟩ = some (.int .i64 0) := blk_cellv (HS.out.at3) 2 rfl; have hz02 : w01.frozen? ⟨g02, 2, none⟩ = false := blk_fz (HS.out.at3) 2) | ((with_reducible refine gate_store (t := 134) (p := 5) rfl ?_); refine store_event (w1 := (World.setCell (World.setCell (World.setCell w01 ⟨g02, 0, none⟩ (.int .i64 t00.1)) ⟨g02, 1, none⟩ (.int .i64 t00.2.1)) ⟨g02, 2, none⟩ (.int .i64 t00.2.2.1))) rfl (t := 134) (p := 5) rfl rfl ?hr ?_; (case hr => first | (go_simp; done) | (go_simp; rfl)); intro w02 hst; clear hc00 hz00 hc01 hz01 hc02 hz02; replace HS : Aside0 (Sep FF w [b7 g00 g01 a01 a02 a03 a04, b6 g01 A00 l00.length n00 a00, r5 A00 l00.length n00 l00, b10 g02 t00.1 t00.2.1 t00.2.2.1] w02) := ⟨by rw [hst]; exact HS.out.setAll (l1 := [b7 g00 g01 a01 a02 a03 a04, b6 g01 A00 l00.length n00 a00, r5 A00 l00.length n00 l00]) (l2 := []) [.int .i64 t00.1, .int .i64 t00.2.1, .int .i64 t00.2.2.1] rfl⟩; clear hst; have hc03 : w02.cell? ⟨g02, 2, none⟩ = some (.int .i64 t00.2.2.1) := blk_cellv (HS.out.at3) 2 rfl))
   clear hc03
   obtain ⟨t01, HA01, H⟩ := bind_some H
   refine (ground_Ground_Reg.calls l00 a00 a01 a02 a03 a04 t00.2.2.1 g00 g01 A00 l00.length n00 t01 _ ⟨HS.out.begin⟩ HA01).mono ?_
   rintro e_ w03 ⟨rfl, hS⟩
   replace HS : Aside0 (Sep FF w [b7 g00 g01 a01 a02 a03 a04, b6 g01 A00 l00.length n00 t01.2, r5 A00 l00.length n00 l00, b10 g02 t00.1 t00.2.1 t00.2.2.1] w03) := ⟨HS.out.call hS⟩
   clear hS
   replace HS : Aside0 (Sep FF w [b7 g00 g01 a01 a02 a03 a04, b6 g01 A00 l00.length n00 t01.2, r5 A00 l00.length n00 l00] w03) := ⟨HS.out.sub (.cons_cons _ (.cons_cons _ (.cons_cons _ (.cons _ .slnil))))⟩
   go_wp2_with fail
   go_ret
   rw [← some_eq H]
   exact ⟨(by first | rfl | (simp [IntKind.wrap_u32]; done)), HS.out⟩
  ·replace H := if_no c00 H
   have c00b0 : t00.2.2.2 = false := by simpa using c00
   have c00b1 : (!t00.2.2.2) = true := by rw [c00b0]; rfl
   try rw [c00b1]
   clear c00
   go_wp2_with (first | ((with_reducible refine gate_dst (N := 5) rfl ?_); refine box_on ?hg (N := 5) ?hd (cs := #[.int .i64 0, .int .i64 0, .int .i64 0]) (t := 134) ?hr ?_; (case hd => rfl); (case hg => rfl); (case hr => first | (go_simp; done) | (go_simp; rfl)); intro g02 hg w01 hbox hb; replace HS : Aside0 (Sep FF w [b7 g00 g01 a01 a02 a03 a04, b6 g01 A00 l00.length n00 a00, r5 A00 l00.length n00 l00, b10 g02 0 0 0] w01) := ⟨HS.out.box hg hbox hb⟩; clear hg hbox hb; have hc00 : w01.cell? ⟨g02, 0, none⟩ = some (.int .i64 0) := blk_cellv (HS.out.at3) 0 rfl; have hz00 : w01.frozen? ⟨g02, 0, none⟩ = false := blk_fz (HS.out.at3) 0; have hc01 : w01.cell? ⟨g02, 1, none⟩ = some (.int .i64 0) := blk_cellv (HS.out.at3) 1 rfl; have hz01 : w01.frozen? ⟨g02, 1, none⟩ = false := blk_fz (HS.out.at3) 1; have hc02 : w01.cell? ⟨g02, 2, none⟩ = some (.int .i64 0) := blk_cellv (HS.out.at3) 2 rfl; have hz02 : w01.frozen? ⟨g02, 2, none⟩ = false := blk_fz (HS.out.at3) 2) | ((with_reducible refine gate_store (t := 134) (p := 5) rfl ?_); refine store_event (w1 := (World.setCell (World.setCell (World.setCell w01 ⟨g02, 0, none⟩ (.int .i64 t00.1)) ⟨g02, 1, none⟩ (.int .i64 t00.2.1)) ⟨g02, 2, none⟩ (.int .i64 t00.2.2.1))) rfl (t := 134) (p := 5) rfl rfl ?hr ?_; (case hr => first | (go_simp; done) | (go_simp; rfl)); intro w02 hst; clear hc00 hz00 hc01 hz01 hc02 hz02; replace HS : Aside0 (Sep FF w [b7 g00 g01 a01 a02 a03 a04, b6 g01 A00 l00.length n00 a00, r5 A00 l00.length n00 l00, b10 g02 t00.1 t00.2.1 t00.2.2.1] w02) := ⟨by rw [hst]; exact HS.out.setAll (l1 := [b7 g00 g01 a01 a02 a03 a04, b6 g01 A00 l00.length n00 a00, r5 A00 l00.length n00 l00]) (l2 := []) [.int .i64 t00.1, .int .i64 t00.2.1, .int .i64 t00.2.2.1] rfl⟩; clear hst; replace HS : Aside0 (Sep FF w [b7 g00 g01 a01 a02 a03 a04, b6 g01 A00 l00.length n00 a00, r5 A00 l00.length n00 l00] w02) := ⟨HS.out.sub (.cons_cons _ (.cons_cons _ (.cons_cons _ (.cons _ .slnil))))⟩))
   go_ret
   rw [← some_eq H]
   exact ⟨(by first | rfl | (simp [IntKind.wrap_u32]; done)), HS.out⟩
end Go.Proofs.Ytobeonkddamnoaa.C

/- Each function of the group Plan does what its plain function says, and changes nothing that was there; proved by walking its code. No condition. -/
import Derived.Test.YtgkpcboaiaiahabQw
import Derived.Test.YtgkpcboaiaiahabMPlan
import Derived.Test.YtgkpcboaiaiahabGPlan0
namespace Go.Proofs.Ytgkpcboaiaiahab.C
open Go.RowKit Go.Proofs.YtgkpcboaiaiahabW.PrintWords Go.Proofs.YtgkpcboaiaiahabW.PrintLast Go.Proofs.YtgkpcboaiaiahabW.PrintMore Go.Proofs.Ytgkpcboaiaiahab.Q Go.Proofs.Ytgkpcboaiaiahab.M
set_option linter.unusedVariables false
set_option linter.unusedSimpArgs false
set_option maxHeartbeats 4000000 in
set_option maxRecDepth 100000 in
theorem plan_Of.calls (k : Nat) (a12 : Int) (a13 : Int) (a14 : Int) (a15 : Int) (r : Int × Int × Int × Int × Int × Int × Int × Int × Int) (w : World)  (HS : Aside0 (Sep (fps []) w [] w)) (H : Aside0 (plan_Of.f k a12 a13 a14 a15 = some r)) :
    Calls Try.prog 21 #[.agg #[.int .i64 a12, .int .i64 a13, .int .i64 a14, .int .i64 a15]] w fun e w' => e = .returned (.tuple #[.agg #[.int .i64 r.1, .int .i64 r.2.1, .int .i64 r.2.2.1, .int .i64 r.2.2.2.1, .int .i64 r.2.2.2.2.1, .int .i64 r.2.2.2.2.2.1, .int .i64 r.2.2.2.2.2.2.1, .int .i64 r.2.2.2.2.2.2.2.1], .int .i64 r.2.2.2.2.2.2.2.2]) ∧ Sep (fps []) w [] w' := by
  unfold plan_Of.f at H
  go_enter Try.func21, Try.ntmps21
  go_wp2_with (first | ((with_reducible refine gate_dst (N := 1) rfl ?_); refine box_on ?hg (N := 1) ?hd (cs := #[.int .i64 a12, .int .i64 a13, .int .i64 a14, .int .i64 a15]) (t := 32) ?hr ?_; (case hd => rfl); (case hg => rfl); (case hr => first | (go_simp; done) | (go_simp; rfl)); intro g16 hg w17 hbox hb; have HS_ : Aside0 (Sep (fps []) w [blk g16 #[.int .i64 a12, .int .i64 a13, .int .i64 a14, .int .i64 a15] 32] w17) := ⟨HS.out.box hg hbox hb⟩; clear HS hg hbox hb; have HS := HS_; clear HS_) | ((with_reducible refine gate_dst (N := 2) rfl ?_); refine box_on ?hg (N := 2) ?hd (cs := #[.int .i64 0, .int .i64 0, .int .i64 0, .int .i64 0, .int .i64 0, .int .i64 0, .int .i64 0, .int .i64 0]) (t := 38) ?hr ?_; (case hd => rfl); (case hg => rfl); (case hr => first | (go_simp; done) | (go_simp; rfl)); intro g19 hg w20 hbox hb; have HS_ : Aside0 (Sep (fps []) w [blk g16 #[.int .i64 a12, .int .i64 a13, .int .i64 a14, .int .i64 a15] 32, blk g19 #[.int .i64 0, .int .i64 0, .int .i64 0, .int .i64 0, .int .i64 0, .int .i64 0, .int .i64 0, .int .i64 0] 38] w20) := ⟨HS.out.box hg hbox hb⟩; clear HS hg hbox hb; have HS := HS_; clear HS_; have hc22 : w20.cell? ⟨g16, 0, none⟩ = some (.int .i64 a12) := blk_cellv (HS.out.at0) 0 rfl; have hc23 : w20.cell? ⟨g16, 1, none⟩ = some (.int .i64 a13) := blk_cellv (HS.out.at0) 1 rfl; have hc24 : w20.cell? ⟨g16, 2, none⟩ = some (.int .i64 a14) := blk_cellv (HS.out.at0) 2 rfl; have hc25 : w20.cell? ⟨g16, 3, none⟩ = some (.int .i64 a15) := blk_cellv (HS.out.at0) 3 rfl))
  clear hc22 hc23 hc24 hc25
  obtain ⟨t67, HA68, H⟩ := bind_some H
  refine (plan_Check.calls a12 a13 a14 a15 t67 _ ⟨HS.out.begin (l := []) (rest := [blk g16 #[.int .i64 a12, .int .i64 a13, .int .i64 a14, .int .i64 a15] 32, blk g19 #[.int .i64 0, .int .i64 0, .int .i64 0, .int .i64 0, .int .i64 0, .int .i64 0, .int .i64 0, .int .i64 0] 38])⟩ HA68).mono ?_
  rintro e_ w69 ⟨rfl, hS⟩
  have HS_ : Aside0 (Sep (fps []) w [blk g16 #[.int .i64 a12, .int .i64 a13, .int .i64 a14, .int .i64 a15] 32, blk g19 #[.int .i64 0, .int .i64 0, .int .i64 0, .int .i64 0, .int .i64 0, .int .i64 0, .int .i64 0, .int .i64 0] 38] w69) := ⟨HS.out.call (l := []) (rest := [blk g16 #[.int .i64 a12, .int .i64 a13, .int .i64 a14, .int .i64 a15] 32, blk g19 #[.int .i64 0, .int .i64 0, .int .i64 0, .int .i64 0, .int .i64 0, .int .i64 0, .int .i64 0, .int .i64 0] 38]) hS⟩
  clear HS hS
  have HS := HS_
  clear HS_
  by_cases c70 : t67 = 0
  · have H := if_yes c70 H
    have c70b0 : (t67 == 0) = true := beq_iff_eq.mpr c70
    have c70b1 : (t67 != 0) = false := bne_eq_false_iff_eq.mpr c70
    clear c70
    go_wp2_with fail
    obtain ⟨t147, HA148, H⟩ := bind_some H
    obtain ⟨t173, HA174, H⟩ := bind_some H
    go_cut [5] (fun v5 wc => ∃ (g73 : Nat) (g150 : Nat) (g176 : Nat), v5 = .pointer (some ⟨g176, 0, none⟩) ∧ Aside0 (Sep (fps []) w [blk g16 #[.int .i64 a12, .int .i64 a13, .int .i64 a14, .int .i64 a15] 32, blk g19 #[.int .i64 0, .int .i64 0, .int .i64 0, .int .i64 0, .int .i64 0, .int .i64 0, .int .i64 0, .int .i64 0] 38, blk g73 #[.int .i64 a12, .int .i64 a13] 3, blk g150 #[.int .i64 24, .int .i64 a14, .int .i64 t147] 3, blk g176 #[.int .i64 t173, .int .i64 (wrap64 (a13 - 8)), .int .i64 0, .int .i64 0, .int .i64 0, .int .i64 0, .int .i64 0, .int .i64 0] 38] wc))
    case first =>
      go_wp2_with fail
      refine start_ (n := 16) (S := (fun w' => w'.cell? ⟨g16, 2, none⟩ = some (.int .i64 a14) ∧ w'.cell? ⟨g16, 0, none⟩ = some (.int .i64 a12) ∧ w'.cell? ⟨g16, 1, none⟩ = some (.int .i64 a13))) (ds := []) #[false, false, false, false, false, false, false, false, false, false, false, false, false, false, false, false] (by kernel_rfl) rfl rfl (⟨blk_cellv ((HS.out.drew).at0) 2 rfl, blk_cellv ((HS.out.drew).at0) 0 rfl, blk_cellv ((HS.out.drew).at0) 1 rfl⟩) (fun hHeld => ?_)
      have HS_ := Aside0.mk HS.out.drew
      clear HS
      generalize World.drew _ = w198 at HS_ hHeld ⊢
      have HS := HS_
      clear HS_
      refine pure_ (i := 0) (N := some 12) (v := ?_) (a' := ?_) #[true, false, false, false, false, false, false, false, false, false, false, false, false, false, false, false] rfl rfl (by kernel_rfl) (fun _ _ _ h => h) (Or.inl ⟨by rfl, ?_⟩) ?_ ?_
      rotate_left
      · intro w'
        go_simp
        with_reducible rfl
      rotate_left
      · simp only [Act.put, List.setIfInBounds_toArray, List.set_cons_zero, List.set_cons_succ, i64_w, i32_w]
        rfl
      refine pure_ (i := 2) (N := some 14) (v := ?_) (a' := ?_) #[true, false, true, false, false, false, false, false, false, false, false, false, false, false, false, false] rfl rfl (by kernel_rfl) (fun _ _ _ h => h) (Or.inl ⟨by rfl, ?_⟩) ?_ ?_
      rotate_left
      · intro w'
        go_simp
        with_reducible rfl
      rotate_left
      · simp only [Act.put, List.setIfInBounds_toArray, List.set_cons_zero, List.set_cons_succ, i64_w, i32_w]
        rfl
      refine pure_ (i := 4) (N := some 16) (v := ?_) (a' := ?_) #[true, false, true, false, true, false, false, false, false, false, false, false, false, false, false, false] rfl rfl (by kernel_rfl) (fun _ _ _ h => h) (Or.inl ⟨by rfl, ?_⟩) ?_ ?_
      rotate_left
      · intro w'
        go_simp
        with_reducible rfl
      rotate_left
      · simp only [Act.put, List.setIfInBounds_toArray, List.set_cons_zero, List.set_cons_succ, i64_w, i32_w]
        rfl
      refine pure_ (i := 10) (N := some 22) (v := ?_) (a' := ?_) #[true, false, true, false, true, false, false, false, false, false, true, false, false, false, false, false] rfl rfl (by kernel_rfl) (fun _ _ _ h => h) (Or.inl ⟨by rfl, ?_⟩) ?_ ?_
      rotate_left
      · intro w'
        go_simp
        with_reducible rfl
      rotate_left
      · simp only [Act.put, List.setIfInBounds_toArray, List.set_cons_zero, List.set_cons_succ, i64_w, i32_w]
        rfl
      refine take_ (i := 1) (N := some 13) (v := ?_) (a' := ?_) #[true, true, true, false, true, false, false, false, false, false, true, false, false, false, false, false] rfl rfl (by kernel_rfl) (fun _ _ _ h => h) (Or.inl ⟨by rfl, ?_⟩) hHeld ?_ ?_
      rotate_left
      · rintro w' hS'
        obtain ⟨s0, s1, s2⟩ := hS'
        go_simp
        with_reducible rfl
      rotate_left
      · simp only [Act.put, List.setIfInBounds_toArray, List.set_cons_zero, List.set_cons_succ, i64_w, i32_w]
        rfl
      refine take_ (i := 3) (N := some 15) (v := ?_) (a' := ?_) #[true, true, true, true, true, false, false, false, false, false, true, false, false, false, false, false] rfl rfl (by kernel_rfl) (fun _ _ _ h => h) (Or.inl ⟨by rfl, ?_⟩) hHeld ?_ ?_
      rotate_left
      · rintro w' hS'
        obtain ⟨s0, s1, s2⟩ := hS'
        go_simp
        with_reducible rfl
      rotate_left
      · simp only [Act.put, List.setIfInBounds_toArray, List.set_cons_zero, List.set_cons_succ, i64_w, i32_w]
        rfl
      refine take_ (i := 5) (N := some 17) (v := ?_) (a' := ?_) #[true, true, true, true, true, true, false, false, false, false, true, false, false, false, false, false] rfl rfl (by kernel_rfl) (fun _ _ _ h => h) (Or.inl ⟨by rfl, ?_⟩) hHeld ?_ ?_
      rotate_left
      · rintro w' hS'
        obtain ⟨s0, s1, s2⟩ := hS'
        go_simp
        with_reducible rfl
      rotate_left
      · simp only [Act.put, List.setIfInBounds_toArray, List.set_cons_zero, List.set_cons_succ, i64_w, i32_w]
        rfl
      refine take_ (i := 11) (N := some 23) (v := ?_) (a' := ?_) #[true, true, true, true, true, true, false, false, false, false, true, true, false, false, false, false] rfl rfl (by kernel_rfl) (fun _ _ _ h => h) (Or.inl ⟨by rfl, ?_⟩) hHeld ?_ ?_
      rotate_left
      · rintro w' hS'
        obtain ⟨s0, s1, s2⟩ := hS'
        go_simp
        with_reducible rfl
      rotate_left
      · simp only [Act.put, List.setIfInBounds_toArray, List.set_cons_zero, List.set_cons_succ, i64_w, i32_w]
        rfl
      refine pure_ (i := 12) (N := some 24) (v := ?_) (a' := ?_) #[true, true, true, true, true, true, false, false, false, false, true, true, true, false, false, false] rfl rfl (by kernel_rfl) (fun _ _ _ h => h) (Or.inl ⟨by rfl, ?_⟩) ?_ ?_
      rotate_left
      · intro w'
        go_simp
        with_reducible rfl
      rotate_left
      · simp only [Act.put, List.setIfInBounds_toArray, List.set_cons_zero, List.set_cons_succ, i64_w, i32_w]
        rfl
      refine two_ (i := 6) (j := 14) (Ni := some 18) (Nj := some 5) #[true, true, true, true, true, true, true, false, false, false, true, true, true, false, false, false] #[true, true, true, true, true, true, false, false, false, false, true, true, true, false, true, false] rfl rfl rfl rfl (by kernel_rfl) (by decide) (by decide) (fun K hK => ?_) (fun K hK => ?_)
      · refine slice_step (n := 2) (by rfl) (N := 18) rfl (cs := #[.int .i64 a12, .int .i64 a13]) (t := 3) ?hr ?_
        case hr => first | (go_simp; done) | (go_simp; rfl)
        intro g199 hg w200 hbox hb
        have HS_ : Aside0 (Sep (fps []) w [blk g16 #[.int .i64 a12, .int .i64 a13, .int .i64 a14, .int .i64 a15] 32, blk g19 #[.int .i64 0, .int .i64 0, .int .i64 0, .int .i64 0, .int .i64 0, .int .i64 0, .int .i64 0, .int .i64 0] 38, blk g199 #[.int .i64 a12, .int .i64 a13] 3] w200) := ⟨HS.out.box hg hbox hb⟩
        clear HS hg hbox hb
        have HS := HS_
        clear HS_
        refine hK.out _ _ (⟨blk_cellv (HS.out.at0) 2 rfl, blk_cellv (HS.out.at0) 0 rfl, blk_cellv (HS.out.at0) 1 rfl⟩) (fun hHeld => ?_)
        clear hK K
        refine norm_ (a' := ?_) ?_ ?_
        rotate_left
        · show Act.put _ (some 18) _ = _
          simp only [Act.put, List.setIfInBounds_toArray, List.set_cons_zero, List.set_cons_succ, i64_w, i32_w]
          rfl
        refine two_ (i := 7) (j := 14) (Ni := some 19) (Nj := some 5) #[true, true, true, true, true, true, true, true, false, false, true, true, true, false, false, false] #[true, true, true, true, true, true, true, false, false, false, true, true, true, false, true, false] rfl rfl rfl rfl (by kernel_rfl) (by decide) (by decide) (fun K hK => ?_) (fun K hK => ?_)
        · refine goes_ Try.func42 (by kernel_rfl) rfl #[.slice (some ⟨g199, 0, none⟩) 2 2] (by rfl) rfl rfl (by (try simp only [List.map_toArray, List.map_cons, List.map_nil]); first | done | rfl) ?_
          refine (ratio_Mul.calls _ [a12, a13] (some ⟨g199, 0, none⟩) 2 t147 _ ⟨C_of_blk (xs := [a12, a13]) (HS.out.at2) (by simp)⟩ ⟨HS.out.begin (l := []) (rest := [blk g16 #[.int .i64 a12, .int .i64 a13, .int .i64 a14, .int .i64 a15] 32, blk g19 #[.int .i64 0, .int .i64 0, .int .i64 0, .int .i64 0, .int .i64 0, .int .i64 0, .int .i64 0, .int .i64 0] 38, blk g199 #[.int .i64 a12, .int .i64 a13] 3])⟩ HA148).mono ?_
          rintro e_ w203 ⟨rfl, hS⟩
          have HS_ : Aside0 (Sep (fps []) w [blk g16 #[.int .i64 a12, .int .i64 a13, .int .i64 a14, .int .i64 a15] 32, blk g19 #[.int .i64 0, .int .i64 0, .int .i64 0, .int .i64 0, .int .i64 0, .int .i64 0, .int .i64 0, .int .i64 0] 38, blk g199 #[.int .i64 a12, .int .i64 a13] 3] w203) := ⟨HS.out.call (l := []) (rest := [blk g16 #[.int .i64 a12, .int .i64 a13, .int .i64 a14, .int .i64 a15] 32, blk g19 #[.int .i64 0, .int .i64 0, .int .i64 0, .int .i64 0, .int .i64 0, .int .i64 0, .int .i64 0, .int .i64 0] 38, blk g199 #[.int .i64 a12, .int .i64 a13] 3]) hS⟩
          clear HS hS
          have HS := HS_
          clear HS_
          refine ⟨_, rfl, ?_⟩
          refine hK.out _ _ (⟨blk_cellv (HS.out.at0) 2 rfl, blk_cellv (HS.out.at0) 0 rfl, blk_cellv (HS.out.at0) 1 rfl⟩) (fun hHeld => ?_)
          clear hK K
          refine norm_ (a' := ?_) ?_ ?_
          rotate_left
          · show Act.put _ (some 19) _ = _
            simp only [Act.put, List.setIfInBounds_toArray, List.set_cons_zero, List.set_cons_succ, i64_w, i32_w]
            rfl
          refine two_ (i := 8) (j := 14) (Ni := some 20) (Nj := some 5) #[true, true, true, true, true, true, true, true, true, false, true, true, true, false, false, false] #[true, true, true, true, true, true, true, true, false, false, true, true, true, false, true, false] rfl rfl rfl rfl (by kernel_rfl) (by decide) (by decide) (fun K hK => ?_) (fun K hK => ?_)
          · refine slice_step (n := 3) (by rfl) (N := 20) rfl (cs := #[.int .i64 24, .int .i64 a14, .int .i64 t147]) (t := 3) ?hr ?_
            case hr => first | (go_simp; done) | (go_simp; rfl)
            intro g204 hg w205 hbox hb
            have HS_ : Aside0 (Sep (fps []) w [blk g16 #[.int .i64 a12, .int .i64 a13, .int .i64 a14, .int .i64 a15] 32, blk g19 #[.int .i64 0, .int .i64 0, .int .i64 0, .int .i64 0, .int .i64 0, .int .i64 0, .int .i64 0, .int .i64 0] 38, blk g199 #[.int .i64 a12, .int .i64 a13] 3, blk g204 #[.int .i64 24, .int .i64 a14, .int .i64 t147] 3] w205) := ⟨HS.out.box hg hbox hb⟩
            clear HS hg hbox hb
            have HS := HS_
            clear HS_
            refine hK.out _ _ (⟨blk_cellv (HS.out.at0) 2 rfl, blk_cellv (HS.out.at0) 0 rfl, blk_cellv (HS.out.at0) 1 rfl⟩) (fun hHeld => ?_)
            clear hK K
            refine norm_ (a' := ?_) ?_ ?_
            rotate_left
            · show Act.put _ (some 20) _ = _
              simp only [Act.put, List.setIfInBounds_toArray, List.set_cons_zero, List.set_cons_succ, i64_w, i32_w]
              rfl
            refine two_ (i := 9) (j := 14) (Ni := some 21) (Nj := some 5) #[true, true, true, true, true, true, true, true, true, true, true, true, true, false, false, false] #[true, true, true, true, true, true, true, true, true, false, true, true, true, false, true, false] rfl rfl rfl rfl (by kernel_rfl) (by decide) (by decide) (fun K hK => ?_) (fun K hK => ?_)
            · refine goes_ Try.func41 (by kernel_rfl) rfl #[.slice (some ⟨g204, 0, none⟩) 3 3] (by rfl) rfl rfl (by (try simp only [List.map_toArray, List.map_cons, List.map_nil]); first | done | rfl) ?_
              refine (ratio_Add.calls _ [24, a14, t147] (some ⟨g204, 0, none⟩) 3 t173 _ ⟨C_of_blk (xs := [24, a14, t147]) (HS.out.at3) (by simp)⟩ ⟨HS.out.begin (l := []) (rest := [blk g16 #[.int .i64 a12, .int .i64 a13, .int .i64 a14, .int .i64 a15] 32, blk g19 #[.int .i64 0, .int .i64 0, .int .i64 0, .int .i64 0, .int .i64 0, .int .i64 0, .int .i64 0, .int .i64 0] 38, blk g199 #[.int .i64 a12, .int .i64 a13] 3, blk g204 #[.int .i64 24, .int .i64 a14, .int .i64 t147] 3])⟩ HA174).mono ?_
              rintro e_ w208 ⟨rfl, hS⟩
              have HS_ : Aside0 (Sep (fps []) w [blk g16 #[.int .i64 a12, .int .i64 a13, .int .i64 a14, .int .i64 a15] 32, blk g19 #[.int .i64 0, .int .i64 0, .int .i64 0, .int .i64 0, .int .i64 0, .int .i64 0, .int .i64 0, .int .i64 0] 38, blk g199 #[.int .i64 a12, .int .i64 a13] 3, blk g204 #[.int .i64 24, .int .i64 a14, .int .i64 t147] 3] w208) := ⟨HS.out.call (l := []) (rest := [blk g16 #[.int .i64 a12, .int .i64 a13, .int .i64 a14, .int .i64 a15] 32, blk g19 #[.int .i64 0, .int .i64 0, .int .i64 0, .int .i64 0, .int .i64 0, .int .i64 0, .int .i64 0, .int .i64 0] 38, blk g199 #[.int .i64 a12, .int .i64 a13] 3, blk g204 #[.int .i64 24, .int .i64 a14, .int .i64 t147] 3]) hS⟩
              clear HS hS
              have HS := HS_
              clear HS_
              refine ⟨_, rfl, ?_⟩
              refine hK.out _ _ (⟨blk_cellv (HS.out.at0) 2 rfl, blk_cellv (HS.out.at0) 0 rfl, blk_cellv (HS.out.at0) 1 rfl⟩) (fun hHeld => ?_)
              clear hK K
              refine norm_ (a' := ?_) ?_ ?_
              rotate_left
              · show Act.put _ (some 21) _ = _
                simp only [Act.put, List.setIfInBounds_toArray, List.set_cons_zero, List.set_cons_succ, i64_w, i32_w]
                rfl
              refine pure_ (i := 13) (N := some 25) (v := ?_) (a' := ?_) #[true, true, true, true, true, true, true, true, true, true, true, true, true, true, false, false] rfl rfl (by kernel_rfl) (fun _ _ _ h => h) (Or.inl ⟨by rfl, ?_⟩) ?_ ?_
              rotate_left
              · intro w'
                go_simp
                with_reducible rfl
              rotate_left
              · simp only [Act.put, List.setIfInBounds_toArray, List.set_cons_zero, List.set_cons_succ, i64_w, i32_w]
                rfl
              refine one_ (i := 14) (N := some 5) #[true, true, true, true, true, true, true, true, true, true, true, true, true, true, true, false] rfl rfl (by kernel_rfl) (by decide) (fun K hK => ?_)
              refine box_step (by rfl) (N := 5) rfl (cs := #[.int .i64 0, .int .i64 0, .int .i64 0, .int .i64 0, .int .i64 0, .int .i64 0, .int .i64 0, .int .i64 0]) (t := 38) ?hr ?_
              case hr => first | (go_simp; done) | (go_simp; rfl)
              intro g209 hg w210 hbox hb
              have HS_ : Aside0 (Sep (fps []) w [blk g16 #[.int .i64 a12, .int .i64 a13, .int .i64 a14, .int .i64 a15] 32, blk g19 #[.int .i64 0, .int .i64 0, .int .i64 0, .int .i64 0, .int .i64 0, .int .i64 0, .int .i64 0, .int .i64 0] 38, blk g199 #[.int .i64 a12, .int .i64 a13] 3, blk g204 #[.int .i64 24, .int .i64 a14, .int .i64 t147] 3, blk g209 #[.int .i64 0, .int .i64 0, .int .i64 0, .int .i64 0, .int .i64 0, .int .i64 0, .int .i64 0, .int .i64 0] 38] w210) := ⟨HS.out.box hg hbox hb⟩
              clear HS hg hbox hb
              have HS := HS_
              clear HS_
              refine hK.out _ _ (⟨blk_cellv (HS.out.at0) 2 rfl, blk_cellv (HS.out.at0) 0 rfl, blk_cellv (HS.out.at0) 1 rfl⟩) (fun hHeld => ?_)
              clear hK K
              refine norm_ (a' := ?_) ?_ ?_
              rotate_left
              · show Act.put _ (some 5) _ = _
                simp only [Act.put, List.setIfInBounds_toArray, List.set_cons_zero, List.set_cons_succ, i64_w, i32_w]
                rfl
              refine one_ (i := 15) (N := none) #[true, true, true, true, true, true, true, true, true, true, true, true, true, true, true, true] rfl rfl (by kernel_rfl) (by decide) (fun K hK => ?_)
              have hc213 := blk_cellv (v := .int .i64 0) (HS.out.at4) 0 rfl
              have hz214 := blk_fz (HS.out.at4) 0
              have hc215 := blk_cellv (v := .int .i64 0) (HS.out.at4) 1 rfl
              have hz216 := blk_fz (HS.out.at4) 1
              have hc217 := blk_cellv (v := .int .i64 0) (HS.out.at4) 2 rfl
              have hz218 := blk_fz (HS.out.at4) 2
              have hc219 := blk_cellv (v := .int .i64 0) (HS.out.at4) 3 rfl
              have hz220 := blk_fz (HS.out.at4) 3
              have hc221 := blk_cellv (v := .int .i64 0) (HS.out.at4) 4 rfl
              have hz222 := blk_fz (HS.out.at4) 4
              have hc223 := blk_cellv (v := .int .i64 0) (HS.out.at4) 5 rfl
              have hz224 := blk_fz (HS.out.at4) 5
              have hc225 := blk_cellv (v := .int .i64 0) (HS.out.at4) 6 rfl
              have hz226 := blk_fz (HS.out.at4) 6
              have hc227 := blk_cellv (v := .int .i64 0) (HS.out.at4) 7 rfl
              have hz228 := blk_fz (HS.out.at4) 7
              refine store_step (w1 := (World.setCell (World.setCell (World.setCell (World.setCell (World.setCell (World.setCell (World.setCell (World.setCell w210 ⟨g209, 0, none⟩ (.int .i64 t173)) ⟨g209, 1, none⟩ (.int .i64 (wrap64 (a13 - 8)))) ⟨g209, 2, none⟩ (.int .i64 0)) ⟨g209, 3, none⟩ (.int .i64 0)) ⟨g209, 4, none⟩ (.int .i64 0)) ⟨g209, 5, none⟩ (.int .i64 0)) ⟨g209, 6, none⟩ (.int .i64 0)) ⟨g209, 7, none⟩ (.int .i64 0))) (by rfl) rfl ?hr ?_
              case hr => first | (go_simp; done) | (go_simp; rfl)
              clear hc213 hz214 hc215 hz216 hc217 hz218 hc219 hz220 hc221 hz222 hc223 hz224 hc225 hz226 hc227 hz228
              intro w212 hst
              have hq0 : Sep (fps []) w [blk g16 #[.int .i64 a12, .int .i64 a13, .int .i64 a14, .int .i64 a15] 32, blk g19 #[.int .i64 0, .int .i64 0, .int .i64 0, .int .i64 0, .int .i64 0, .int .i64 0, .int .i64 0, .int .i64 0] 38, blk g199 #[.int .i64 a12, .int .i64 a13] 3, blk g204 #[.int .i64 24, .int .i64 a14, .int .i64 t147] 3, blk g209 #[.int .i64 t173, .int .i64 0, .int .i64 0, .int .i64 0, .int .i64 0, .int .i64 0, .int .i64 0, .int .i64 0] 38] (World.setCell w210 ⟨g209, 0, none⟩ (.int .i64 t173)) := (HS.out).set1 (l1 := [blk g16 #[.int .i64 a12, .int .i64 a13, .int .i64 a14, .int .i64 a15] 32, blk g19 #[.int .i64 0, .int .i64 0, .int .i64 0, .int .i64 0, .int .i64 0, .int .i64 0, .int .i64 0, .int .i64 0] 38, blk g199 #[.int .i64 a12, .int .i64 a13] 3, blk g204 #[.int .i64 24, .int .i64 a14, .int .i64 t147] 3]) (l2 := []) 0 (.int .i64 t173)
              have hq1 : Sep (fps []) w [blk g16 #[.int .i64 a12, .int .i64 a13, .int .i64 a14, .int .i64 a15] 32, blk g19 #[.int .i64 0, .int .i64 0, .int .i64 0, .int .i64 0, .int .i64 0, .int .i64 0, .int .i64 0, .int .i64 0] 38, blk g199 #[.int .i64 a12, .int .i64 a13] 3, blk g204 #[.int .i64 24, .int .i64 a14, .int .i64 t147] 3, blk g209 #[.int .i64 t173, .int .i64 (wrap64 (a13 - 8)), .int .i64 0, .int .i64 0, .int .i64 0, .int .i64 0, .int .i64 0, .int .i64 0] 38] (World.setCell (World.setCell w210 ⟨g209, 0, none⟩ (.int .i64 t173)) ⟨g209, 1, none⟩ (.int .i64 (wrap64 (a13 - 8)))) := (hq0).set1 (l1 := [blk g16 #[.int .i64 a12, .int .i64 a13, .int .i64 a14, .int .i64 a15] 32, blk g19 #[.int .i64 0, .int .i64 0, .int .i64 0, .int .i64 0, .int .i64 0, .int .i64 0, .int .i64 0, .int .i64 0] 38, blk g199 #[.int .i64 a12, .int .i64 a13] 3, blk g204 #[.int .i64 24, .int .i64 a14, .int .i64 t147] 3]) (l2 := []) 1 (.int .i64 (wrap64 (a13 - 8)))
              have hq2 : Sep (fps []) w [blk g16 #[.int .i64 a12, .int .i64 a13, .int .i64 a14, .int .i64 a15] 32, blk g19 #[.int .i64 0, .int .i64 0, .int .i64 0, .int .i64 0, .int .i64 0, .int .i64 0, .int .i64 0, .int .i64 0] 38, blk g199 #[.int .i64 a12, .int .i64 a13] 3, blk g204 #[.int .i64 24, .int .i64 a14, .int .i64 t147] 3, blk g209 #[.int .i64 t173, .int .i64 (wrap64 (a13 - 8)), .int .i64 0, .int .i64 0, .int .i64 0, .int .i64 0, .int .i64 0, .int .i64 0] 38] (World.setCell (World.setCell (World.setCell w210 ⟨g209, 0, none⟩ (.int .i64 t173)) ⟨g209, 1, none⟩ (.int .i64 (wrap64 (a13 - 8)))) ⟨g209, 2, none⟩ (.int .i64 0)) := (hq1).set1 (l1 := [blk g16 #[.int .i64 a12, .int .i64 a13, .int .i64 a14, .int .i64 a15] 32, blk g19 #[.int .i64 0, .int .i64 0, .int .i64 0, .int .i64 0, .int .i64 0, .int .i64 0, .int .i64 0, .int .i64 0] 38, blk g199 #[.int .i64 a12, .int .i64 a13] 3, blk g204 #[.int .i64 24, .int .i64 a14, .int .i64 t147] 3]) (l2 := []) 2 (.int .i64 0)
              have hq3 : Sep (fps []) w [blk g16 #[.int .i64 a12, .int .i64 a13, .int .i64 a14, .int .i64 a15] 32, blk g19 #[.int .i64 0, .int .i64 0, .int .i64 0, .int .i64 0, .int .i64 0, .int .i64 0, .int .i64 0, .int .i64 0] 38, blk g199 #[.int .i64 a12, .int .i64 a13] 3, blk g204 #[.int .i64 24, .int .i64 a14, .int .i64 t147] 3, blk g209 #[.int .i64 t173, .int .i64 (wrap64 (a13 - 8)), .int .i64 0, .int .i64 0, .int .i64 0, .int .i64 0, .int .i64 0, .int .i64 0] 38] (World.setCell (World.setCell (World.setCell (World.setCell w210 ⟨g209, 0, none⟩ (.int .i64 t173)) ⟨g209, 1, none⟩ (.int .i64 (wrap64 (a13 - 8)))) ⟨g209, 2, none⟩ (.int .i64 0)) ⟨g209, 3, none⟩ (.int .i64 0)) := (hq2).set1 (l1 := [blk g16 #[.int .i64 a12, .int .i64 a13, .int .i64 a14, .int .i64 a15] 32, blk g19 #[.int .i64 0, .int .i64 0, .int .i64 0, .int .i64 0, .int .i64 0, .int .i64 0, .int .i64 0, .int .i64 0] 38, blk g199 #[.int .i64 a12, .int .i64 a13] 3, blk g204 #[.int .i64 24, .int .i64 a14, .int .i64 t147] 3]) (l2 := []) 3 (.int .i64 0)
              have hq4 : Sep (fps []) w [blk g16 #[.int .i64 a12, .int .i64 a13, .int .i64 a14, .int .i64 a15] 32, blk g19 #[.int .i64 0, .int .i64 0, .int .i64 0, .int .i64 0, .int .i64 0, .int .i64 0, .int .i64 0, .int .i64 0] 38, blk g199 #[.int .i64 a12, .int .i64 a13] 3, blk g204 #[.int .i64 24, .int .i64 a14, .int .i64 t147] 3, blk g209 #[.int .i64 t173, .int .i64 (wrap64 (a13 - 8)), .int .i64 0, .int .i64 0, .int .i64 0, .int .i64 0, .int .i64 0, .int .i64 0] 38] (World.setCell (World.setCell (World.setCell (World.setCell (World.setCell w210 ⟨g209, 0, none⟩ (.int .i64 t173)) ⟨g209, 1, none⟩ (.int .i64 (wrap64 (a13 - 8)))) ⟨g209, 2, none⟩ (.int .i64 0)) ⟨g209, 3, none⟩ (.int .i64 0)) ⟨g209, 4, none⟩ (.int .i64 0)) := (hq3).set1 (l1 := [blk g16 #[.int .i64 a12, .int .i64 a13, .int .i64 a14, .int .i64 a15] 32, blk g19 #[.int .i64 0, .int .i64 0, .int .i64 0, .int .i64 0, .int .i64 0, .int .i64 0, .int .i64 0, .int .i64 0] 38, blk g199 #[.int .i64 a12, .int .i64 a13] 3, blk g204 #[.int .i64 24, .int .i64 a14, .int .i64 t147] 3]) (l2 := []) 4 (.int .i64 0)
              have hq5 : Sep (fps []) w [blk g16 #[.int .i64 a12, .int .i64 a13, .int .i64 a14, .int .i64 a15] 32, blk g19 #[.int .i64 0, .int .i64 0, .int .i64 0, .int .i64 0, .int .i64 0, .int .i64 0, .int .i64 0, .int .i64 0] 38, blk g199 #[.int .i64 a12, .int .i64 a13] 3, blk g204 #[.int .i64 24, .int .i64 a14, .int .i64 t147] 3, blk g209 #[.int .i64 t173, .int .i64 (wrap64 (a13 - 8)), .int .i64 0, .int .i64 0, .int .i64 0, .int .i64 0, .int .i64 0, .int .i64 0] 38] (World.setCell (World.setCell (World.setCell (World.setCell (World.setCell (World.setCell w210 ⟨g209, 0, none⟩ (.int .i64 t173)) ⟨g209, 1, none⟩ (.int .i64 (wrap64 (a13 - 8)))) ⟨g209, 2, none⟩ (.int .i64 0)) ⟨g209, 3, none⟩ (.int .i64 0)) ⟨g209, 4, none⟩ (.int .i64 0)) ⟨g209, 5, none⟩ (.int .i64 0)) := (hq4).set1 (l1 := [blk g16 #[.int .i64 a12, .int .i64 a13, .int .i64 a14, .int .i64 a15] 32, blk g19 #[.int .i64 0, .int .i64 0, .int .i64 0, .int .i64 0, .int .i64 0, .int .i64 0, .int .i64 0, .int .i64 0] 38, blk g199 #[.int .i64 a12, .int .i64 a13] 3, blk g204 #[.int .i64 24, .int .i64 a14, .int .i64 t147] 3]) (l2 := []) 5 (.int .i64 0)
              have hq6 : Sep (fps []) w [blk g16 #[.int .i64 a12, .int .i64 a13, .int .i64 a14, .int .i64 a15] 32, blk g19 #[.int .i64 0, .int .i64 0, .int .i64 0, .int .i64 0, .int .i64 0, .int .i64 0, .int .i64 0, .int .i64 0] 38, blk g199 #[.int .i64 a12, .int .i64 a13] 3, blk g204 #[.int .i64 24, .int .i64 a14, .int .i64 t147] 3, blk g209 #[.int .i64 t173, .int .i64 (wrap64 (a13 - 8)), .int .i64 0, .int .i64 0, .int .i64 0, .int .i64 0, .int .i64 0, .int .i64 0] 38] (World.setCell (World.setCell (World.setCell (World.setCell (World.setCell (World.setCell (World.setCell w210 ⟨g209, 0, none⟩ (.int .i64 t173)) ⟨g209, 1, none⟩ (.int .i64 (wrap64 (a13 - 8)))) ⟨g209, 2, none⟩ (.int .i64 0)) ⟨g209, 3, none⟩ (.int .i64 0)) ⟨g209, 4, none⟩ (.int .i64 0)) ⟨g209, 5, none⟩ (.int .i64 0)) ⟨g209, 6, none⟩ (.int .i64 0)) := (hq5).set1 (l1 := [blk g16 #[.int .i64 a12, .int .i64 a13, .int .i64 a14, .int .i64 a15] 32, blk g19 #[.int .i64 0, .int .i64 0, .int .i64 0, .int .i64 0, .int .i64 0, .int .i64 0, .int .i64 0, .int .i64 0] 38, blk g199 #[.int .i64 a12, .int .i64 a13] 3, blk g204 #[.int .i64 24, .int .i64 a14, .int .i64 t147] 3]) (l2 := []) 6 (.int .i64 0)
              have hq7 : Sep (fps []) w [blk g16 #[.int .i64 a12, .int .i64 a13, .int .i64 a14, .int .i64 a15] 32, blk g19 #[.int .i64 0, .int .i64 0, .int .i64 0, .int .i64 0, .int .i64 0, .int .i64 0, .int .i64 0, .int .i64 0] 38, blk g199 #[.int .i64 a12, .int .i64 a13] 3, blk g204 #[.int .i64 24, .int .i64 a14, .int .i64 t147] 3, blk g209 #[.int .i64 t173, .int .i64 (wrap64 (a13 - 8)), .int .i64 0, .int .i64 0, .int .i64 0, .int .i64 0, .int .i64 0, .int .i64 0] 38] (World.setCell (World.setCell (World.setCell (World.setCell (World.setCell (World.setCell (World.setCell (World.setCell w210 ⟨g209, 0, none⟩ (.int .i64 t173)) ⟨g209, 1, none⟩ (.int .i64 (wrap64 (a13 - 8)))) ⟨g209, 2, none⟩ (.int .i64 0)) ⟨g209, 3, none⟩ (.int .i64 0)) ⟨g209, 4, none⟩ (.int .i64 0)) ⟨g209, 5, none⟩ (.int .i64 0)) ⟨g209, 6, none⟩ (.int .i64 0)) ⟨g209, 7, none⟩ (.int .i64 0)) := (hq6).set1 (l1 := [blk g16 #[.int .i64 a12, .int .i64 a13, .int .i64 a14, .int .i64 a15] 32, blk g19 #[.int .i64 0, .int .i64 0, .int .i64 0, .int .i64 0, .int .i64 0, .int .i64 0, .int .i64 0, .int .i64 0] 38, blk g199 #[.int .i64 a12, .int .i64 a13] 3, blk g204 #[.int .i64 24, .int .i64 a14, .int .i64 t147] 3]) (l2 := []) 7 (.int .i64 0)
              have HS_ : Aside0 (Sep (fps []) w [blk g16 #[.int .i64 a12, .int .i64 a13, .int .i64 a14, .int .i64 a15] 32, blk g19 #[.int .i64 0, .int .i64 0, .int .i64 0, .int .i64 0, .int .i64 0, .int .i64 0, .int .i64 0, .int .i64 0] 38, blk g199 #[.int .i64 a12, .int .i64 a13] 3, blk g204 #[.int .i64 24, .int .i64 a14, .int .i64 t147] 3, blk g209 #[.int .i64 t173, .int .i64 (wrap64 (a13 - 8)), .int .i64 0, .int .i64 0, .int .i64 0, .int .i64 0, .int .i64 0, .int .i64 0] 38] w212) := ⟨by rw [hst]; exact hq7⟩
              clear hq0 hq1 hq2 hq3 hq4 hq5 hq6 hq7
              clear HS hst
              have HS := HS_
              clear HS_
              refine hK.out _ _ (⟨blk_cellv (HS.out.at0) 2 rfl, blk_cellv (HS.out.at0) 0 rfl, blk_cellv (HS.out.at0) 1 rfl⟩) (fun hHeld => ?_)
              clear hK K
              refine done_ (by kernel_rfl) ?_
              go_wp2_with fail
              go_meet
              case rel => exact ⟨g199, g204, g209, (by first | rfl | (simp [IntKind.wrap_u32]; done)), ⟨(((((HS.out).front 4 (by simp)).front 4 (by simp)).front 4 (by simp)).front 4 (by simp)).front 4 (by simp)⟩⟩
            · refine box_step (by rfl) (N := 5) rfl (cs := #[.int .i64 0, .int .i64 0, .int .i64 0, .int .i64 0, .int .i64 0, .int .i64 0, .int .i64 0, .int .i64 0]) (t := 38) ?hr ?_
              case hr => first | (go_simp; done) | (go_simp; rfl)
              intro g229 hg w230 hbox hb
              have HS_ : Aside0 (Sep (fps []) w [blk g16 #[.int .i64 a12, .int .i64 a13, .int .i64 a14, .int .i64 a15] 32, blk g19 #[.int .i64 0, .int .i64 0, .int .i64 0, .int .i64 0, .int .i64 0, .int .i64 0, .int .i64 0, .int .i64 0] 38, blk g199 #[.int .i64 a12, .int .i64 a13] 3, blk g204 #[.int .i64 24, .int .i64 a14, .int .i64 t147] 3, blk g229 #[.int .i64 0, .int .i64 0, .int .i64 0, .int .i64 0, .int .i64 0, .int .i64 0, .int .i64 0, .int .i64 0] 38] w230) := ⟨HS.out.box hg hbox hb⟩
              clear HS hg hbox hb
              have HS := HS_
              clear HS_
              refine hK.out _ _ (⟨blk_cellv (HS.out.at0) 2 rfl, blk_cellv (HS.out.at0) 0 rfl, blk_cellv (HS.out.at0) 1 rfl⟩) (fun hHeld => ?_)
              clear hK K
              refine norm_ (a' := ?_) ?_ ?_
              rotate_left
              · show Act.put _ (some 5) _ = _
                simp only [Act.put, List.setIfInBounds_toArray, List.set_cons_zero, List.set_cons_succ, i64_w, i32_w]
                rfl
              refine one_ (i := 9) (N := some 21) #[true, true, true, true, true, true, true, true, true, true, true, true, true, false, true, false] rfl rfl (by kernel_rfl) (by decide) (fun K hK => ?_)
              refine goes_ Try.func41 (by kernel_rfl) rfl #[.slice (some ⟨g204, 0, none⟩) 3 3] (by rfl) rfl rfl (by (try simp only [List.map_toArray, List.map_cons, List.map_nil]); first | done | rfl) ?_
              refine (ratio_Add.calls _ [24, a14, t147] (some ⟨g204, 0, none⟩) 3 t173 _ ⟨C_of_blk (xs := [24, a14, t147]) (HS.out.at3) (by simp)⟩ ⟨HS.out.begin (l := []) (rest := [blk g16 #[.int .i64 a12, .int .i64 a13, .int .i64 a14, .int .i64 a15] 32, blk g19 #[.int .i64 0, .int .i64 0, .int .i64 0, .int .i64 0, .int .i64 0, .int .i64 0, .int .i64 0, .int .i64 0] 38, blk g199 #[.int .i64 a12, .int .i64 a13] 3, blk g204 #[.int .i64 24, .int .i64 a14, .int .i64 t147] 3, blk g229 #[.int .i64 0, .int .i64 0, .int .i64 0, .int .i64 0, .int .i64 0, .int .i64 0, .int .i64 0, .int .i64 0] 38])⟩ HA174).mono ?_
              rintro e_ w233 ⟨rfl, hS⟩
              have HS_ : Aside0 (Sep (fps []) w [blk g16 #[.int .i64 a12, .int .i64 a13, .int .i64 a14, .int .i64 a15] 32, blk g19 #[.int .i64 0, .int .i64 0, .int .i64 0, .int .i64 0, .int .i64 0, .int .i64 0, .int .i64 0, .int .i64 0] 38, blk g199 #[.int .i64 a12, .int .i64 a13] 3, blk g204 #[.int .i64 24, .int .i64 a14, .int .i64 t147] 3, blk g229 #[.int .i64 0, .int .i64 0, .int .i64 0, .int .i64 0, .int .i64 0, .int .i64 0, .int .i64 0, .int .i64 0] 38] w233) := ⟨HS.out.call (l := []) (rest := [blk g16 #[.int .i64 a12, .int .i64 a13, .int .i64 a14, .int .i64 a15] 32, blk g19 #[.int .i64 0, .int .i64 0, .int .i64 0, .int .i64 0, .int .i64 0, .int .i64 0, .int .i64 0, .int .i64 0] 38, blk g199 #[.int .i64 a12, .int .i64 a13] 3, blk g204 #[.int .i64 24, .int .i64 a14, .int .i64 t147] 3, blk g229 #[.int .i64 0, .int .i64 0, .int .i64 0, .int .i64 0, .int .i64 0, .int .i64 0, .int .i64 0, .int .i64 0] 38]) hS⟩
              clear HS hS
              have HS := HS_
              clear HS_
              refine ⟨_, rfl, ?_⟩
              refine hK.out _ _ (⟨blk_cellv (HS.out.at0) 2 rfl, blk_cellv (HS.out.at0) 0 rfl, blk_cellv (HS.out.at0) 1 rfl⟩) (fun hHeld => ?_)
              clear hK K
              refine norm_ (a' := ?_) ?_ ?_
              rotate_left
              · show Act.put _ (some 21) _ = _
                simp only [Act.put, List.setIfInBounds_toArray, List.set_cons_zero, List.set_cons_succ, i64_w, i32_w]
                rfl
              refine pure_ (i := 13) (N := some 25) (v := ?_) (a' := ?_) #[true, true, true, true, true, true, true, true, true, true, true, true, true, true, true, false] rfl rfl (by kernel_rfl) (fun _ _ _ h => h) (Or.inl ⟨by rfl, ?_⟩) ?_ ?_
              rotate_left
              · intro w'
                go_simp
                with_reducible rfl
              rotate_left
              · simp only [Act.put, List.setIfInBounds_toArray, List.set_cons_zero, List.set_cons_succ, i64_w, i32_w]
                rfl
              refine one_ (i := 15) (N := none) #[true, true, true, true, true, true, true, true, true, true, true, true, true, true, true, true] rfl rfl (by kernel_rfl) (by decide) (fun K hK => ?_)
              have hc235 := blk_cellv (v := .int .i64 0) (HS.out.at4) 0 rfl
              have hz236 := blk_fz (HS.out.at4) 0
              have hc237 := blk_cellv (v := .int .i64 0) (HS.out.at4) 1 rfl
              have hz238 := blk_fz (HS.out.at4) 1
              have hc239 := blk_cellv (v := .int .i64 0) (HS.out.at4) 2 rfl
              have hz240 := blk_fz (HS.out.at4) 2
              have hc241 := blk_cellv (v := .int .i64 0) (HS.out.at4) 3 rfl
              have hz242 := blk_fz (HS.out.at4) 3
              have hc243 := blk_cellv (v := .int .i64 0) (HS.out.at4) 4 rfl
              have hz244 := blk_fz (HS.out.at4) 4
              have hc245 := blk_cellv (v := .int .i64 0) (HS.out.at4) 5 rfl
              have hz246 := blk_fz (HS.out.at4) 5
              have hc247 := blk_cellv (v := .int .i64 0) (HS.out.at4) 6 rfl
              have hz248 := blk_fz (HS.out.at4) 6
              have hc249 := blk_cellv (v := .int .i64 0) (HS.out.at4) 7 rfl
              have hz250 := blk_fz (HS.out.at4) 7
              refine store_step (w1 := (World.setCell (World.setCell (World.setCell (World.setCell (World.setCell (World.setCell (World.setCell (World.setCell w233 ⟨g229, 0, none⟩ (.int .i64 t173)) ⟨g229, 1, none⟩ (.int .i64 (wrap64 (a13 - 8)))) ⟨g229, 2, none⟩ (.int .i64 0)) ⟨g229, 3, none⟩ (.int .i64 0)) ⟨g229, 4, none⟩ (.int .i64 0)) ⟨g229, 5, none⟩ (.int .i64 0)) ⟨g229, 6, none⟩ (.int .i64 0)) ⟨g229, 7, none⟩ (.int .i64 0))) (by rfl) rfl ?hr ?_
              case hr => first | (go_simp; done) | (go_simp; rfl)
              clear hc235 hz236 hc237 hz238 hc239 hz240 hc241 hz242 hc243 hz244 hc245 hz246 hc247 hz248 hc249 hz250
              intro w234 hst
              have hq0 : Sep (fps []) w [blk g16 #[.int .i64 a12, .int .i64 a13, .int .i64 a14, .int .i64 a15] 32, blk g19 #[.int .i64 0, .int .i64 0, .int .i64 0, .int .i64 0, .int .i64 0, .int .i64 0, .int .i64 0, .int .i64 0] 38, blk g199 #[.int .i64 a12, .int .i64 a13] 3, blk g204 #[.int .i64 24, .int .i64 a14, .int .i64 t147] 3, blk g229 #[.int .i64 t173, .int .i64 0, .int .i64 0, .int .i64 0, .int .i64 0, .int .i64 0, .int .i64 0, .int .i64 0] 38] (World.setCell w233 ⟨g229, 0, none⟩ (.int .i64 t173)) := (HS.out).set1 (l1 := [blk g16 #[.int .i64 a12, .int .i64 a13, .int .i64 a14, .int .i64 a15] 32, blk g19 #[.int .i64 0, .int .i64 0, .int .i64 0, .int .i64 0, .int .i64 0, .int .i64 0, .int .i64 0, .int .i64 0] 38, blk g199 #[.int .i64 a12, .int .i64 a13] 3, blk g204 #[.int .i64 24, .int .i64 a14, .int .i64 t147] 3]) (l2 := []) 0 (.int .i64 t173)
              have hq1 : Sep (fps []) w [blk g16 #[.int .i64 a12, .int .i64 a13, .int .i64 a14, .int .i64 a15] 32, blk g19 #[.int .i64 0, .int .i64 0, .int .i64 0, .int .i64 0, .int .i64 0, .int .i64 0, .int .i64 0, .int .i64 0] 38, blk g199 #[.int .i64 a12, .int .i64 a13] 3, blk g204 #[.int .i64 24, .int .i64 a14, .int .i64 t147] 3, blk g229 #[.int .i64 t173, .int .i64 (wrap64 (a13 - 8)), .int .i64 0, .int .i64 0, .int .i64 0, .int .i64 0, .int .i64 0, .int .i64 0] 38] (World.setCell (World.setCell w233 ⟨g229, 0, none⟩ (.int .i64 t173)) ⟨g229, 1, none⟩ (.int .i64 (wrap64 (a13 - 8)))) := (hq0).set1 (l1 := [blk g16 #[.int .i64 a12, .int .i64 a13, .int .i64 a14, .int .i64 a15] 32, blk g19 #[.int .i64 0, .int .i64 0, .int .i64 0, .int .i64 0, .int .i64 0, .int .i64 0, .int .i64 0, .int .i64 0] 38, blk g199 #[.int .i64 a12, .int .i64 a13] 3, blk g204 #[.int .i64 24, .int .i64 a14, .int .i64 t147] 3]) (l2 := []) 1 (.int .i64 (wrap64 (a13 - 8)))
              have hq2 : Sep (fps []) w [blk g16 #[.int .i64 a12, .int .i64 a13, .int .i64 a14, .int .i64 a15] 32, blk g19 #[.int .i64 0, .int .i64 0, .int .i64 0, .int .i64 0, .int .i64 0, .int .i64 0, .int .i64 0, .int .i64 0] 38, blk g199 #[.int .i64 a12, .int .i64 a13] 3, blk g204 #[.int .i64 24, .int .i64 a14, .int .i64 t147] 3, blk g229 #[.int .i64 t173, .int .i64 (wrap64 (a13 - 8)), .int .i64 0, .int .i64 0, .int .i64 0, .int .i64 0, .int .i64 0, .int .i64 0] 38] (World.setCell (World.setCell (World.setCell w233 ⟨g229, 0, none⟩ (.int .i64 t173)) ⟨g229, 1, none⟩ (.int .i64 (wrap64 (a13 - 8)))) ⟨g229, 2, none⟩ (.int .i64 0)) := (hq1).set1 (l1 := [blk g16 #[.int .i64 a12, .int .i64 a13, .int .i64 a14, .int .i64 a15] 32, blk g19 #[.int .i64 0, .int .i64 0, .int .i64 0, .int .i64 0, .int .i64 0, .int .i64 0, .int .i64 0, .int .i64 0] 38, blk g199 #[.int .i64 a12, .int .i64 a13] 3, blk g204 #[.int .i64 24, .int .i64 a14, .int .i64 t147] 3]) (l2 := []) 2 (.int .i64 0)
              have hq3 : Sep (fps []) w [blk g16 #[.int .i64 a12, .int .i64 a13, .int .i64 a14, .int .i64 a15] 32, blk g19 #[.int .i64 0, .int .i64 0, .int .i64 0, .int .i64 0, .int .i64 0, .int .i64 0, .int .i64 0, .int .i64 0] 38, blk g199 #[.int .i64 a12, .int .i64 a13] 3, blk g204 #[.int .i64 24, .int .i64 a14, .int .i64 t147] 3, blk g229 #[.int .i64 t173, .int .i64 (wrap64 (a13 - 8)), .int .i64 0, .int .i64 0, .int .i64 0, .int .i64 0, .int .i64 0, .int .i64 0] 38] (World.setCell (World.setCell (World.setCell (World.setCell w233 ⟨g229, 0, none⟩ (.int .i64 t173)) ⟨g229, 1, none⟩ (.int .i64 (wrap64 (a13 - 8)))) ⟨g229, 2, none⟩ (.int .i64 0)) ⟨g229, 3, none⟩ (.int .i64 0)) := (hq2).set1 (l1 := [blk g16 #[.int .i64 a12, .int .i64 a13, .int .i64 a14, .int .i64 a15] 32, blk g19 #[.int .i64 0, .int .i64 0, .int .i64 0, .int .i64 0, .int .i64 0, .int .i64 0, .int .i64 0, .int .i64 0] 38, blk g199 #[.int .i64 a12, .int .i64 a13] 3, blk g204 #[.int .i64 24, .int .i64 a14, .int .i64 t147] 3]) (l2 := []) 3 (.int .i64 0)
              have hq4 : Sep (fps []) w [blk g16 #[.int .i64 a12, .int .i64 a13, .int .i64 a14, .int .i64 a15] 32, blk g19 #[.int .i64 0, .int .i64 0, .int .i64 0, .int .i64 0, .int .i64 0, .int .i64 0, .int .i64 0, .int .i64 0] 38, blk g199 #[.int .i64 a12, .int .i64 a13] 3, blk g204 #[.int .i64 24, .int .i64 a14, .int .i64 t147] 3, blk g229 #[.int .i64 t173, .int .i64 (wrap64 (a13 - 8)), .int .i64 0, .int .i64 0, .int .i64 0, .int .i64 0, .int .i64 0, .int .i64 0] 38] (World.setCell (World.setCell (World.setCell (World.setCell (World.setCell w233 ⟨g229, 0, none⟩ (.int .i64 t173)) ⟨g229, 1, none⟩ (.int .i64 (wrap64 (a13 - 8)))) ⟨g229, 2, none⟩ (.int .i64 0)) ⟨g229, 3, none⟩ (.int .i64 0)) ⟨g229, 4, none⟩ (.int .i64 0)) := (hq3).set1 (l1 := [blk g16 #[.int .i64 a12, .int .i64 a13, .int .i64 a14, .int .i64 a15] 32, blk g19 #[.int .i64 0, .int .i64 0, .int .i64 0, .int .i64 0, .int .i64 0, .int .i64 0, .int .i64 0, .int .i64 0] 38, blk g199 #[.int .i64 a12, .int .i64 a13] 3, blk g204 #[.int .i64 24, .int .i64 a14, .int .i64 t147] 3]) (l2 := []) 4 (.int .i64 0)
              have hq5 : Sep (fps []) w [blk g16 #[.int .i64 a12, .int .i64 a13, .int .i64 a14, .int .i64 a15] 32, blk g19 #[.int .i64 0, .int .i64 0, .int .i64 0, .int .i64 0, .int .i64 0, .int .i64 0, .int .i64 0, .int .i64 0] 38, blk g199 #[.int .i64 a12, .int .i64 a13] 3, blk g204 #[.int .i64 24, .int .i64 a14, .int .i64 t147] 3, blk g229 #[.int .i64 t173, .int .i64 (wrap64 (a13 - 8)), .int .i64 0, .int .i64 0, .int .i64 0, .int .i64 0, .int .i64 0, .int .i64 0] 38] (World.setCell (World.setCell (World.setCell (World.setCell (World.setCell (World.setCell w233 ⟨g229, 0, none⟩ (.int .i64 t173)) ⟨g229, 1, none⟩ (.int .i64 (wrap64 (a13 - 8)))) ⟨g229, 2, none⟩ (.int .i64 0)) ⟨g229, 3, none⟩ (.int .i64 0)) ⟨g229, 4, none⟩ (.int .i64 0)) ⟨g229, 5, none⟩ (.int .i64 0)) := (hq4).set1 (l1 := [blk g16 #[.int .i64 a12, .int .i64 a13, .int .i64 a14, .int .i64 a15] 32, blk g19 #[.int .i64 0, .int .i64 0, .int .i64 0, .int .i64 0, .int .i64 0, .int .i64 0, .int .i64 0, .int .i64 0] 38, blk g199 #[.int .i64 a12, .int .i64 a13] 3, blk g204 #[.int .i64 24, .int .i64 a14, .int .i64 t147] 3]) (l2 := []) 5 (.int .i64 0)
              have hq6 : Sep (fps []) w [blk g16 #[.int .i64 a12, .int .i64 a13, .int .i64 a14, .int .i64 a15] 32, blk g19 #[.int .i64 0, .int .i64 0, .int .i64 0, .int .i64 0, .int .i64 0, .int .i64 0, .int .i64 0, .int .i64 0] 38, blk g199 #[.int .i64 a12, .int .i64 a13] 3, blk g204 #[.int .i64 24, .int .i64 a14, .int .i64 t147] 3, blk g229 #[.int .i64 t173, .int .i64 (wrap64 (a13 - 8)), .int .i64 0, .int .i64 0, .int .i64 0, .int .i64 0, .int .i64 0, .int .i64 0] 38] (World.setCell (World.setCell (World.setCell (World.setCell (World.setCell (World.setCell (World.setCell w233 ⟨g229, 0, none⟩ (.int .i64 t173)) ⟨g229, 1, none⟩ (.int .i64 (wrap64 (a13 - 8)))) ⟨g229, 2, none⟩ (.int .i64 0)) ⟨g229, 3, none⟩ (.int .i64 0)) ⟨g229, 4, none⟩ (.int .i64 0)) ⟨g229, 5, none⟩ (.int .i64 0)) ⟨g229, 6, none⟩ (.int .i64 0)) := (hq5).set1 (l1 := [blk g16 #[.int .i64 a12, .int .i64 a13, .int .i64 a14, .int .i64 a15] 32, blk g19 #[.int .i64 0, .int .i64 0, .int .i64 0, .int .i64 0, .int .i64 0, .int .i64 0, .int .i64 0, .int .i64 0] 38, blk g199 #[.int .i64 a12, .int .i64 a13] 3, blk g204 #[.int .i64 24, .int .i64 a14, .int .i64 t147] 3]) (l2 := []) 6 (.int .i64 0)
              have hq7 : Sep (fps []) w [blk g16 #[.int .i64 a12, .int .i64 a13, .int .i64 a14, .int .i64 a15] 32, blk g19 #[.int .i64 0, .int .i64 0, .int .i64 0, .int .i64 0, .int .i64 0, .int .i64 0, .int .i64 0, .int .i64 0] 38, blk g199 #[.int .i64 a12, .int .i64 a13] 3, blk g204 #[.int .i64 24, .int .i64 a14, .int .i64 t147] 3, blk g229 #[.int .i64 t173, .int .i64 (wrap64 (a13 - 8)), .int .i64 0, .int .i64 0, .int .i64 0, .int .i64 0, .int .i64 0, .int .i64 0] 38] (World.setCell (World.setCell (World.setCell (World.setCell (World.setCell (World.setCell (World.setCell (World.setCell w233 ⟨g229, 0, none⟩ (.int .i64 t173)) ⟨g229, 1, none⟩ (.int .i64 (wrap64 (a13 - 8)))) ⟨g229, 2, none⟩ (.int .i64 0)) ⟨g229, 3, none⟩ (.int .i64 0)) ⟨g229, 4, none⟩ (.int .i64 0)) ⟨g229, 5, none⟩ (.int .i64 0)) ⟨g229, 6, none⟩ (.int .i64 0)) ⟨g229, 7, none⟩ (.int .i64 0)) := (hq6).set1 (l1 := [blk g16 #[.int .i64 a12, .int .i64 a13, .int .i64 a14, .int .i64 a15] 32, blk g19 #[.int .i64 0, .int .i64 0, .int .i64 0, .int .i64 0, .int .i64 0, .int .i64 0, .int .i64 0, .int .i64 0] 38, blk g199 #[.int .i64 a12, .int .i64 a13] 3, blk g204 #[.int .i64 24, .int .i64 a14, .int .i64 t147] 3]) (l2 := []) 7 (.int .i64 0)
              have HS_ : Aside0 (Sep (fps []) w [blk g16 #[.int .i64 a12, .int .i64 a13, .int .i64 a14, .int .i64 a15] 32, blk g19 #[.int .i64 0, .int .i64 0, .int .i64 0, .int .i64 0, .int .i64 0, .int .i64 0, .int .i64 0, .int .i64 0] 38, blk g199 #[.int .i64 a12, .int .i64 a13] 3, blk g204 #[.int .i64 24, .int .i64 a14, .int .i64 t147] 3, blk g229 #[.int .i64 t173, .int .i64 (wrap64 (a13 - 8)), .int .i64 0, .int .i64 0, .int .i64 0, .int .i64 0, .int .i64 0, .int .i64 0] 38] w234) := ⟨by rw [hst]; exact hq7⟩
              clear hq0 hq1 hq2 hq3 hq4 hq5 hq6 hq7
              clear HS hst
              have HS := HS_
              clear HS_
              refine hK.out _ _ (⟨blk_cellv (HS.out.at0) 2 rfl, blk_cellv (HS.out.at0) 0 rfl, blk_cellv (HS.out.at0) 1 rfl⟩) (fun hHeld => ?_)
              clear hK K
              refine done_ (by kernel_rfl) ?_
              go_wp2_with fail
              go_meet
              case rel => exact ⟨g199, g204, g229, (by first | rfl | (simp [IntKind.wrap_u32]; done)), ⟨(((((HS.out).front 4 (by simp)).front 4 (by simp)).front 4 (by simp)).front 4 (by simp)).front 4 (by simp)⟩⟩
          · refine box_step (by rfl) (N := 5) rfl (cs := #[.int .i64 0, .int .i64 0, .int .i64 0, .int .i64 0, .int .i64 0, .int .i64 0, .int .i64 0, .int .i64 0]) (t := 38) ?hr ?_
            case hr => first | (go_simp; done) | (go_simp; rfl)
            intro g251 hg w252 hbox hb
            have HS_ : Aside0 (Sep (fps []) w [blk g16 #[.int .i64 a12, .int .i64 a13, .int .i64 a14, .int .i64 a15] 32, blk g19 #[.int .i64 0, .int .i64 0, .int .i64 0, .int .i64 0, .int .i64 0, .int .i64 0, .int .i64 0, .int .i64 0] 38, blk g199 #[.int .i64 a12, .int .i64 a13] 3, blk g251 #[.int .i64 0, .int .i64 0, .int .i64 0, .int .i64 0, .int .i64 0, .int .i64 0, .int .i64 0, .int .i64 0] 38] w252) := ⟨HS.out.box hg hbox hb⟩
            clear HS hg hbox hb
            have HS := HS_
            clear HS_
            refine hK.out _ _ (⟨blk_cellv (HS.out.at0) 2 rfl, blk_cellv (HS.out.at0) 0 rfl, blk_cellv (HS.out.at0) 1 rfl⟩) (fun hHeld => ?_)
            clear hK K
            refine norm_ (a' := ?_) ?_ ?_
            rotate_left
            · show Act.put _ (some 5) _ = _
              simp only [Act.put, List.setIfInBounds_toArray, List.set_cons_zero, List.set_cons_succ, i64_w, i32_w]
              rfl
            refine one_ (i := 8) (N := some 20) #[true, true, true, true, true, true, true, true, true, false, true, true, true, false, true, false] rfl rfl (by kernel_rfl) (by decide) (fun K hK => ?_)
            refine slice_step (n := 3) (by rfl) (N := 20) rfl (cs := #[.int .i64 24, .int .i64 a14, .int .i64 t147]) (t := 3) ?hr ?_
            case hr => first | (go_simp; done) | (go_simp; rfl)
            intro g254 hg w255 hbox hb
            have HS_ : Aside0 (Sep (fps []) w [blk g16 #[.int .i64 a12, .int .i64 a13, .int .i64 a14, .int .i64 a15] 32, blk g19 #[.int .i64 0, .int .i64 0, .int .i64 0, .int .i64 0, .int .i64 0, .int .i64 0, .int .i64 0, .int .i64 0] 38, blk g199 #[.int .i64 a12, .int .i64 a13] 3, blk g251 #[.int .i64 0, .int .i64 0, .int .i64 0, .int .i64 0, .int .i64 0, .int .i64 0, .int .i64 0, .int .i64 0] 38, blk g254 #[.int .i64 24, .int .i64 a14, .int .i64 t147] 3] w255) := ⟨HS.out.box hg hbox hb⟩
            clear HS hg hbox hb
            have HS := HS_
            clear HS_
            refine hK.out _ _ (⟨blk_cellv (HS.out.at0) 2 rfl, blk_cellv (HS.out.at0) 0 rfl, blk_cellv (HS.out.at0) 1 rfl⟩) (fun hHeld => ?_)
            clear hK K
            refine norm_ (a' := ?_) ?_ ?_
            rotate_left
            · show Act.put _ (some 20) _ = _
              simp only [Act.put, List.setIfInBounds_toArray, List.set_cons_zero, List.set_cons_succ, i64_w, i32_w]
              rfl
            refine one_ (i := 9) (N := some 21) #[true, true, true, true, true, true, true, true, true, true, true, true, true, false, true, false] rfl rfl (by kernel_rfl) (by decide) (fun K hK => ?_)
            refine goes_ Try.func41 (by kernel_rfl) rfl #[.slice (some ⟨g254, 0, none⟩) 3 3] (by rfl) rfl rfl (by (try simp only [List.map_toArray, List.map_cons, List.map_nil]); first | done | rfl) ?_
            refine (ratio_Add.calls _ [24, a14, t147] (some ⟨g254, 0, none⟩) 3 t173 _ ⟨C_of_blk (xs := [24, a14, t147]) (HS.out.at4) (by simp)⟩ ⟨HS.out.begin (l := []) (rest := [blk g16 #[.int .i64 a12, .int .i64 a13, .int .i64 a14, .int .i64 a15] 32, blk g19 #[.int .i64 0, .int .i64 0, .int .i64 0, .int .i64 0, .int .i64 0, .int .i64 0, .int .i64 0, .int .i64 0] 38, blk g199 #[.int .i64 a12, .int .i64 a13] 3, blk g251 #[.int .i64 0, .int .i64 0, .int .i64 0, .int .i64 0, .int .i64 0, .int .i64 0, .int .i64 0, .int .i64 0] 38, blk g254 #[.int .i64 24, .int .i64 a14, .int .i64 t147] 3])⟩ HA174).mono ?_
            rintro e_ w258 ⟨rfl, hS⟩
            have HS_ : Aside0 (Sep (fps []) w [blk g16 #[.int .i64 a12, .int .i64 a13, .int .i64 a14, .int .i64 a15] 32, blk g19 #[.int .i64 0, .int .i64 0, .int .i64 0, .int .i64 0, .int .i64 0, .int .i64 0, .int .i64 0, .int .i64 0] 38, blk g199 #[.int .i64 a12, .int .i64 a13] 3, blk g251 #[.int .i64 0, .int .i64 0, .int .i64 0, .int .i64 0, .int .i64 0, .int .i64 0, .int .i64 0, .int .i64 0] 38, blk g254 #[.int .i64 24, .int .i64 a14, .int .i64 t147] 3] w258) := ⟨HS.out.call (l := []) (rest := [blk g16 #[.int .i64 a12, .int .i64 a13, .int .i64 a14, .int .i64 a15] 32, blk g19 #[.int .i64 0, .int .i64 0, .int .i64 0, .int .i64 0, .int .i64 0, .int .i64 0, .int .i64 0, .int .i64 0] 38, blk g199 #[.int .i64 a12, .int .i64 a13] 3, blk g251 #[.int .i64 0, .int .i64 0, .int .i64 0, .int .i64 0, .int .i64 0, .int .i64 0, .int .i64 0, .int .i64 0] 38, blk g254 #[.int .i64 24, .int .i64 a14, .int .i64 t147] 3]) hS⟩
            clear HS hS
            have HS := HS_
            clear HS_
            refine ⟨_, rfl, ?_⟩
            refine hK.out _ _ (⟨blk_cellv (HS.out.at0) 2 rfl, blk_cellv (HS.out.at0) 0 rfl, blk_cellv (HS.out.at0) 1 rfl⟩) (fun hHeld => ?_)
            clear hK K
            refine norm_ (a' := ?_) ?_ ?_
            rotate_left
            · show Act.put _ (some 21) _ = _
              simp only [Act.put, List.setIfInBounds_toArray, List.set_cons_zero, List.set_cons_succ, i64_w, i32_w]
              rfl
            refine pure_ (i := 13) (N := some 25) (v := ?_) (a' := ?_) #[true, true, true, true, true, true, true, true, true, true, true, true, true, true, true, false] rfl rfl (by kernel_rfl) (fun _ _ _ h => h) (Or.inl ⟨by rfl, ?_⟩) ?_ ?_
            rotate_left
            · intro w'
              go_simp
              with_reducible rfl
            rotate_left
            · simp only [Act.put, List.setIfInBounds_toArray, List.set_cons_zero, List.set_cons_succ, i64_w, i32_w]
              rfl
            refine one_ (i := 15) (N := none) #[true, true, true, true, true, true, true, true, true, true, true, true, true, true, true, true] rfl rfl (by kernel_rfl) (by decide) (fun K hK => ?_)
            have hc260 := blk_cellv (v := .int .i64 0) (HS.out.at3) 0 rfl
            have hz261 := blk_fz (HS.out.at3) 0
            have hc262 := blk_cellv (v := .int .i64 0) (HS.out.at3) 1 rfl
            have hz263 := blk_fz (HS.out.at3) 1
            have hc264 := blk_cellv (v := .int .i64 0) (HS.out.at3) 2 rfl
            have hz265 := blk_fz (HS.out.at3) 2
            have hc266 := blk_cellv (v := .int .i64 0) (HS.out.at3) 3 rfl
            have hz267 := blk_fz (HS.out.at3) 3
            have hc268 := blk_cellv (v := .int .i64 0) (HS.out.at3) 4 rfl
            have hz269 := blk_fz (HS.out.at3) 4
            have hc270 := blk_cellv (v := .int .i64 0) (HS.out.at3) 5 rfl
            have hz271 := blk_fz (HS.out.at3) 5
            have hc272 := blk_cellv (v := .int .i64 0) (HS.out.at3) 6 rfl
            have hz273 := blk_fz (HS.out.at3) 6
            have hc274 := blk_cellv (v := .int .i64 0) (HS.out.at3) 7 rfl
            have hz275 := blk_fz (HS.out.at3) 7
            refine store_step (w1 := (World.setCell (World.setCell (World.setCell (World.setCell (World.setCell (World.setCell (World.setCell (World.setCell w258 ⟨g251, 0, none⟩ (.int .i64 t173)) ⟨g251, 1, none⟩ (.int .i64 (wrap64 (a13 - 8)))) ⟨g251, 2, none⟩ (.int .i64 0)) ⟨g251, 3, none⟩ (.int .i64 0)) ⟨g251, 4, none⟩ (.int .i64 0)) ⟨g251, 5, none⟩ (.int .i64 0)) ⟨g251, 6, none⟩ (.int .i64 0)) ⟨g251, 7, none⟩ (.int .i64 0))) (by rfl) rfl ?hr ?_
            case hr => first | (go_simp; done) | (go_simp; rfl)
            clear hc260 hz261 hc262 hz263 hc264 hz265 hc266 hz267 hc268 hz269 hc270 hz271 hc272 hz273 hc274 hz275
            intro w259 hst
            have hq0 : Sep (fps []) w [blk g16 #[.int .i64 a12, .int .i64 a13, .int .i64 a14, .int .i64 a15] 32, blk g19 #[.int .i64 0, .int .i64 0, .int .i64 0, .int .i64 0, .int .i64 0, .int .i64 0, .int .i64 0, .int .i64 0] 38, blk g199 #[.int .i64 a12, .int .i64 a13] 3, blk g251 #[.int .i64 t173, .int .i64 0, .int .i64 0, .int .i64 0, .int .i64 0, .int .i64 0, .int .i64 0, .int .i64 0] 38, blk g254 #[.int .i64 24, .int .i64 a14, .int .i64 t147] 3] (World.setCell w258 ⟨g251, 0, none⟩ (.int .i64 t173)) := (HS.out).set1 (l1 := [blk g16 #[.int .i64 a12, .int .i64 a13, .int .i64 a14, .int .i64 a15] 32, blk g19 #[.int .i64 0, .int .i64 0, .int .i64 0, .int .i64 0, .int .i64 0, .int .i64 0, .int .i64 0, .int .i64 0] 38, blk g199 #[.int .i64 a12, .int .i64 a13] 3]) (l2 := [blk g254 #[.int .i64 24, .int .i64 a14, .int .i64 t147] 3]) 0 (.int .i64 t173)
            have hq1 : Sep (fps []) w [blk g16 #[.int .i64 a12, .int .i64 a13, .int .i64 a14, .int .i64 a15] 32, blk g19 #[.int .i64 0, .int .i64 0, .int .i64 0, .int .i64 0, .int .i64 0, .int .i64 0, .int .i64 0, .int .i64 0] 38, blk g199 #[.int .i64 a12, .int .i64 a13] 3, blk g251 #[.int .i64 t173, .int .i64 (wrap64 (a13 - 8)), .int .i64 0, .int .i64 0, .int .i64 0, .int .i64 0, .int .i64 0, .int .i64 0] 38, blk g254 #[.int .i64 24, .int .i64 a14, .int .i64 t147] 3] (World.setCell (World.setCell w258 ⟨g251, 0, none⟩ (.int .i64 t173)) ⟨g251, 1, none⟩ (.int .i64 (wrap64 (a13 - 8)))) := (hq0).set1 (l1 := [blk g16 #[.int .i64 a12, .int .i64 a13, .int .i64 a14, .int .i64 a15] 32, blk g19 #[.int .i64 0, .int .i64 0, .int .i64 0, .int .i64 0, .int .i64 0, .int .i64 0, .int .i64 0, .int .i64 0] 38, blk g199 #[.int .i64 a12, .int .i64 a13] 3]) (l2 := [blk g254 #[.int .i64 24, .int .i64 a14, .int .i64 t147] 3]) 1 (.int .i64 (wrap64 (a13 - 8)))
            have hq2 : Sep (fps []) w [blk g16 #[.int .i64 a12, .int .i64 a13, .int .i64 a14, .int .i64 a15] 32, blk g19 #[.int .i64 0, .int .i64 0, .int .i64 0, .int .i64 0, .int .i64 0, .int .i64 0, .int .i64 0, .int .i64 0] 38, blk g199 #[.int .i64 a12, .int .i64 a13] 3, blk g251 #[.int .i64 t173, .int .i64 (wrap64 (a13 - 8)), .int .i64 0, .int .i64 0, .int .i64 0, .int .i64 0, .int .i64 0, .int .i64 0] 38, blk g254 #[.int .i64 24, .int .i64 a14, .int .i64 t147] 3] (World.setCell (World.setCell (World.setCell w258 ⟨g251, 0, none⟩ (.int .i64 t173)) ⟨g251, 1, none⟩ (.int .i64 (wrap64 (a13 - 8)))) ⟨g251, 2, none⟩ (.int .i64 0)) := (hq1).set1 (l1 := [blk g16 #[.int .i64 a12, .int .i64 a13, .int .i64 a14, .int .i64 a15] 32, blk g19 #[.int .i64 0, .int .i64 0, .int .i64 0, .int .i64 0, .int .i64 0, .int .i64 0, .int .i64 0, .int .i64 0] 38, blk g199 #[.int .i64 a12, .int .i64 a13] 3]) (l2 := [blk g254 #[.int .i64 24, .int .i64 a14, .int .i64 t147] 3]) 2 (.int .i64 0)
            have hq3 : Sep (fps []) w [blk g16 #[.int .i64 a12, .int .i64 a13, .int .i64 a14, .int .i64 a15] 32, blk g19 #[.int .i64 0, .int .i64 0, .int .i64 0, .int .i64 0, .int .i64 0, .int .i64 0, .int .i64 0, .int .i64 0] 38, blk g199 #[.int .i64 a12, .int .i64 a13] 3, blk g251 #[.int .i64 t173, .int .i64 (wrap64 (a13 - 8)), .int .i64 0, .int .i64 0, .int .i64 0, .int .i64 0, .int .i64 0, .int .i64 0] 38, blk g254 #[.int .i64 24, .int .i64 a14, .int .i64 t147] 3] (World.setCell (World.setCell (World.setCell (World.setCell w258 ⟨g251, 0, none⟩ (.int .i64 t173)) ⟨g251, 1, none⟩ (.int .i64 (wrap64 (a13 - 8)))) ⟨g251, 2, none⟩ (.int .i64 0)) ⟨g251, 3, none⟩ (.int .i64 0)) := (hq2).set1 (l1 := [blk g16 #[.int .i64 a12, .int .i64 a13, .int .i64 a14, .int .i64 a15] 32, blk g19 #[.int .i64 0, .int .i64 0, .int .i64 0, .int .i64 0, .int .i64 0, .int .i64 0, .int .i64 0, .int .i64 0] 38, blk g199 #[.int .i64 a12, .int .i64 a13] 3]) (l2 := [blk g254 #[.int .i64 24, .int .i64 a14, .int .i64 t147] 3]) 3 (.int .i64 0)
            have hq4 : Sep (fps []) w [blk g16 #[.int .i64 a12, .int .i64 a13, .int .i64 a14, .int .i64 a15] 32, blk g19 #[.int .i64 0, .int .i64 0, .int .i64 0, .int .i64 0, .int .i64 0, .int .i64 0, .int .i64 0, .int .i64 0] 38, blk g199 #[.int .i64 a12, .int .i64 a13] 3, blk g251 #[.int .i64 t173, .int .i64 (wrap64 (a13 - 8)), .int .i64 0, .int .i64 0, .int .i64 0, .int .i64 0, .int .i64 0, .int .i64 0] 38, blk g254 #[.int .i64 24, .int .i64 a14, .int .i64 t147] 3] (World.setCell (World.setCell (World.setCell (World.setCell (World.setCell w258 ⟨g251, 0, none⟩ (.int .i64 t173)) ⟨g251, 1, none⟩ (.int .i64 (wrap64 (a13 - 8)))) ⟨g251, 2, none⟩ (.int .i64 0)) ⟨g251, 3, none⟩ (.int .i64 0)) ⟨g251, 4, none⟩ (.int .i64 0)) := (hq3).set1 (l1 := [blk g16 #[.int .i64 a12, .int .i64 a13, .int .i64 a14, .int .i64 a15] 32, blk g19 #[.int .i64 0, .int .i64 0, .int .i64 0, .int .i64 0, .int .i64 0, .int .i64 0, .int .i64 0, .int .i64 0] 38, blk g199 #[.int .i64 a12, .int .i64 a13] 3]) (l2 := [blk g254 #[.int .i64 24, .int .i64 a14, .int .i64 t147] 3]) 4 (.int .i64 0)
            have hq5 : Sep (fps []) w [blk g16 #[.int .i64 a12, .int .i64 a13, .int .i64 a14, .int .i64 a15] 32, blk g19 #[.int .i64 0, .int .i64 0, .int .i64 0, .int .i64 0, .int .i64 0, .int .i64 0, .int .i64 0, .int .i64 0] 38, blk g199 #[.int .i64 a12, .int .i64 a13] 3, blk g251 #[.int .i64 t173, .int .i64 (wrap64 (a13 - 8)), .int .i64 0, .int .i64 0, .int .i64 0, .int .i64 0, .int .i64 0, .int .i64 0] 38, blk g254 #[.int .i64 24, .int .i64 a14, .int .i64 t147] 3] (World.setCell (World.setCell (World.setCell (World.setCell (World.setCell (World.setCell w258 ⟨g251, 0, none⟩ (.int .i64 t173)) ⟨g251, 1, none⟩ (.int .i64 (wrap64 (a13 - 8)))) ⟨g251, 2, none⟩ (.int .i64 0)) ⟨g251, 3, none⟩ (.int .i64 0)) ⟨g251, 4, none⟩ (.int .i64 0)) ⟨g251, 5, none⟩ (.int .i64 0)) := (hq4).set1 (l1 := [blk g16 #[.int .i64 a12, .int .i64 a13, .int .i64 a14, .int .i64 a15] 32, blk g19 #[.int .i64 0, .int .i64 0, .int .i64 0, .int .i64 0, .int .i64 0, .int .i64 0, .int .i64 0, .int .i64 0] 38, blk g199 #[.int .i64 a12, .int .i64 a13] 3]) (l2 := [blk g254 #[.int .i64 24, .int .i64 a14, .int .i64 t147] 3]) 5 (.int .i64 0)
            have hq6 : Sep (fps []) w [blk g16 #[.int .i64 a12, .int .i64 a13, .int .i64 a14, .int .i64 a15] 32, blk g19 #[.int .i64 0, .int .i64 0, .int .i64 0, .int .i64 0, .int .i64 0, .int .i64 0, .int .i64 0, .int .i64 0] 38, blk g199 #[.int .i64 a12, .int .i64 a13] 3, blk g251 #[.int .i64 t173, .int .i64 (wrap64 (a13 - 8)), .int .i64 0, .int .i64 0, .int .i64 0, .int .i64 0, .int .i64 0, .int .i64 0] 38, blk g254 #[.int .i64 24, .int .i64 a14, .int .i64 t147] 3] (World.setCell (World.setCell (World.setCell (World.setCell (World.setCell (World.setCell (World.setCell w258 ⟨g251, 0, none⟩ (.int .i64 t173)) ⟨g251, 1, none⟩ (.int .i64 (wrap64 (a13 - 8)))) ⟨g251, 2, none⟩ (.int .i64 0)) ⟨g251, 3, none⟩ (.int .i64 0)) ⟨g251, 4, none⟩ (.int .i64 0)) ⟨g251, 5, none⟩ (.int .i64 0)) ⟨g251, 6, none⟩ (.int .i64 0)) := (hq5).set1 (l1 := [blk g16 #[.int .i64 a12, .int .i64 a13, .int .i64 a14, .int .i64 a15] 32, blk g19 #[.int .i64 0, .int .i64 0, .int .i64 0, .int .i64 0, .int .i64 0, .int .i64 0, .int .i64 0, .int .i64 0] 38, blk g199 #[.int .i64 a12, .int .i64 a13] 3]) (l2 := [blk g254 #[.int .i64 24, .int .i64 a14, .int .i64 t147] 3]) 6 (.int .i64 0)
            have hq7 : Sep (fps []) w [blk g16 #[.int .i64 a12, .int .i64 a13, .int .i64 a14, .int .i64 a15] 32, blk g19 #[.int .i64 0, .int .i64 0, .int .i64 0, .int .i64 0, .int .i64 0, .int .i64 0, .int .i64 0, .int .i64 0] 38, blk g199 #[.int .i64 a12, .int .i64 a13] 3, blk g251 #[.int .i64 t173, .int .i64 (wrap64 (a13 - 8)), .int .i64 0, .int .i64 0, .int .i64 0, .int .i64 0, .int .i64 0, .int .i64 0] 38, blk g254 #[.int .i64 24, .int .i64 a14, .int .i64 t147] 3] (World.setCell (World.setCell (World.setCell (World.setCell (World.setCell (World.setCell (World.setCell (World.setCell w258 ⟨g251, 0, none⟩ (.int .i64 t173)) ⟨g251, 1, none⟩ (.int .i64 (wrap64 (a13 - 8)))) ⟨g251, 2, none⟩ (.int .i64 0)) ⟨g251, 3, none⟩ (.int .i64 0)) ⟨g251, 4, none⟩ (.int .i64 0)) ⟨g251, 5, none⟩ (.int .i64 0)) ⟨g251, 6, none⟩ (.int .i64 0)) ⟨g251, 7, none⟩ (.int .i64 0)) := (hq6).set1 (l1 := [blk g16 #[.int .i64 a12, .int .i64 a13, .int .i64 a14, .int .i64 a15] 32, blk g19 #[.int .i64 0, .int .i64 0, .int .i64 0, .int .i64 0, .int .i64 0, .int .i64 0, .int .i64 0, .int .i64 0] 38, blk g199 #[.int .i64 a12, .int .i64 a13] 3]) (l2 := [blk g254 #[.int .i64 24, .int .i64 a14, .int .i64 t147] 3]) 7 (.int .i64 0)
            have HS_ : Aside0 (Sep (fps []) w [blk g16 #[.int .i64 a12, .int .i64 a13, .int .i64 a14, .int .i64 a15] 32, blk g19 #[.int .i64 0, .int .i64 0, .int .i64 0, .int .i64 0, .int .i64 0, .int .i64 0, .int .i64 0, .int .i64 0] 38, blk g199 #[.int .i64 a12, .int .i64 a13] 3, blk g251 #[.int .i64 t173, .int .i64 (wrap64 (a13 - 8)), .int .i64 0, .int .i64 0, .int .i64 0, .int .i64 0, .int .i64 0, .int .i64 0] 38, blk g254 #[.int .i64 24, .int .i64 a14, .int .i64 t147] 3] w259) := ⟨by rw [hst]; exact hq7⟩
            clear hq0 hq1 hq2 hq3 hq4 hq5 hq6 hq7
            clear HS hst
            have HS := HS_
            clear HS_
            refine hK.out _ _ (⟨blk_cellv (HS.out.at0) 2 rfl, blk_cellv (HS.out.at0) 0 rfl, blk_cellv (HS.out.at0) 1 rfl⟩) (fun hHeld => ?_)
            clear hK K
            refine done_ (by kernel_rfl) ?_
            go_wp2_with fail
            go_meet
            case rel => exact ⟨g199, g254, g251, (by first | rfl | (simp [IntKind.wrap_u32]; done)), ⟨(((((HS.out).front 3 (by simp)).front 4 (by simp)).front 4 (by simp)).front 4 (by simp)).front 4 (by simp)⟩⟩
        · refine box_step (by rfl) (N := 5) rfl (cs := #[.int .i64 0, .int .i64 0, .int .i64 0, .int .i64 0, .int .i64 0, .int .i64 0, .int .i64 0, .int .i64 0]) (t := 38) ?hr ?_
          case hr => first | (go_simp; done) | (go_simp; rfl)
          intro g276 hg w277 hbox hb
          have HS_ : Aside0 (Sep (fps []) w [blk g16 #[.int .i64 a12, .int .i64 a13, .int .i64 a14, .int .i64 a15] 32, blk g19 #[.int .i64 0, .int .i64 0, .int .i64 0, .int .i64 0, .int .i64 0, .int .i64 0, .int .i64 0, .int .i64 0] 38, blk g199 #[.int .i64 a12, .int .i64 a13] 3, blk g276 #[.int .i64 0, .int .i64 0, .int .i64 0, .int .i64 0, .int .i64 0, .int .i64 0, .int .i64 0, .int .i64 0] 38] w277) := ⟨HS.out.box hg hbox hb⟩
          clear HS hg hbox hb
          have HS := HS_
          clear HS_
          refine hK.out _ _ (⟨blk_cellv (HS.out.at0) 2 rfl, blk_cellv (HS.out.at0) 0 rfl, blk_cellv (HS.out.at0) 1 rfl⟩) (fun hHeld => ?_)
          clear hK K
          refine norm_ (a' := ?_) ?_ ?_
          rotate_left
          · show Act.put _ (some 5) _ = _
            simp only [Act.put, List.setIfInBounds_toArray, List.set_cons_zero, List.set_cons_succ, i64_w, i32_w]
            rfl
          refine one_ (i := 7) (N := some 19) #[true, true, true, true, true, true, true, true, false, false, true, true, true, false, true, false] rfl rfl (by kernel_rfl) (by decide) (fun K hK => ?_)
          refine goes_ Try.func42 (by kernel_rfl) rfl #[.slice (some ⟨g199, 0, none⟩) 2 2] (by rfl) rfl rfl (by (try simp only [List.map_toArray, List.map_cons, List.map_nil]); first | done | rfl) ?_
          refine (ratio_Mul.calls _ [a12, a13] (some ⟨g199, 0, none⟩) 2 t147 _ ⟨C_of_blk (xs := [a12, a13]) (HS.out.at2) (by simp)⟩ ⟨HS.out.begin (l := []) (rest := [blk g16 #[.int .i64 a12, .int .i64 a13, .int .i64 a14, .int .i64 a15] 32, blk g19 #[.int .i64 0, .int .i64 0, .int .i64 0, .int .i64 0, .int .i64 0, .int .i64 0, .int .i64 0, .int .i64 0] 38, blk g199 #[.int .i64 a12, .int .i64 a13] 3, blk g276 #[.int .i64 0, .int .i64 0, .int .i64 0, .int .i64 0, .int .i64 0, .int .i64 0, .int .i64 0, .int .i64 0] 38])⟩ HA148).mono ?_
          rintro e_ w280 ⟨rfl, hS⟩
          have HS_ : Aside0 (Sep (fps []) w [blk g16 #[.int .i64 a12, .int .i64 a13, .int .i64 a14, .int .i64 a15] 32, blk g19 #[.int .i64 0, .int .i64 0, .int .i64 0, .int .i64 0, .int .i64 0, .int .i64 0, .int .i64 0, .int .i64 0] 38, blk g199 #[.int .i64 a12, .int .i64 a13] 3, blk g276 #[.int .i64 0, .int .i64 0, .int .i64 0, .int .i64 0, .int .i64 0, .int .i64 0, .int .i64 0, .int .i64 0] 38] w280) := ⟨HS.out.call (l := []) (rest := [blk g16 #[.int .i64 a12, .int .i64 a13, .int .i64 a14, .int .i64 a15] 32, blk g19 #[.int .i64 0, .int .i64 0, .int .i64 0, .int .i64 0, .int .i64 0, .int .i64 0, .int .i64 0, .int .i64 0] 38, blk g199 #[.int .i64 a12, .int .i64 a13] 3, blk g276 #[.int .i64 0, .int .i64 0, .int .i64 0, .int .i64 0, .int .i64 0, .int .i64 0, .int .i64 0, .int .i64 0] 38]) hS⟩
          clear HS hS
          have HS := HS_
          clear HS_
          refine ⟨_, rfl, ?_⟩
          refine hK.out _ _ (⟨blk_cellv (HS.out.at0) 2 rfl, blk_cellv (HS.out.at0) 0 rfl, blk_cellv (HS.out.at0) 1 rfl⟩) (fun hHeld => ?_)
          clear hK K
          refine norm_ (a' := ?_) ?_ ?_
          rotate_left
          · show Act.put _ (some 19) _ = _
            simp only [Act.put, List.setIfInBounds_toArray, List.set_cons_zero, List.set_cons_succ, i64_w, i32_w]
            rfl
          refine one_ (i := 8) (N := some 20) #[true, true, true, true, true, true, true, true, true, false, true, true, true, false, true, false] rfl rfl (by kernel_rfl) (by decide) (fun K hK => ?_)
          refine slice_step (n := 3) (by rfl) (N := 20) rfl (cs := #[.int .i64 24, .int .i64 a14, .int .i64 t147]) (t := 3) ?hr ?_
          case hr => first | (go_simp; done) | (go_simp; rfl)
          intro g281 hg w282 hbox hb
          have HS_ : Aside0 (Sep (fps []) w [blk g16 #[.int .i64 a12, .int .i64 a13, .int .i64 a14, .int .i64 a15] 32, blk g19 #[.int .i64 0, .int .i64 0, .int .i64 0, .int .i64 0, .int .i64 0, .int .i64 0, .int .i64 0, .int .i64 0] 38, blk g199 #[.int .i64 a12, .int .i64 a13] 3, blk g276 #[.int .i64 0, .int .i64 0, .int .i64 0, .int .i64 0, .int .i64 0, .int .i64 0, .int .i64 0, .int .i64 0] 38, blk g281 #[.int .i64 24, .int .i64 a14, .int .i64 t147] 3] w282) := ⟨HS.out.box hg hbox hb⟩
          clear HS hg hbox hb
          have HS := HS_
          clear HS_
          refine hK.out _ _ (⟨blk_cellv (HS.out.at0) 2 rfl, blk_cellv (HS.out.at0) 0 rfl, blk_cellv (HS.out.at0) 1 rfl⟩) (fun hHeld => ?_)
          clear hK K
          refine norm_ (a' := ?_) ?_ ?_
          rotate_left
          · show Act.put _ (some 20) _ = _
            simp only [Act.put, List.setIfInBounds_toArray, List.set_cons_zero, List.set_cons_succ, i64_w, i32_w]
            rfl
          refine one_ (i := 9) (N := some 21) #[true, true, true, true, true, true, true, true, true, true, true, true, true, false, true, false] rfl rfl (by kernel_rfl) (by decide) (fun K hK => ?_)
          refine goes_ Try.func41 (by kernel_rfl) rfl #[.slice (some ⟨g281, 0, none⟩) 3 3] (by rfl) rfl rfl (by (try simp only [List.map_toArray, List.map_cons, List.map_nil]); first | done | rfl) ?_
          refine (ratio_Add.calls _ [24, a14, t147] (some ⟨g281, 0, none⟩) 3 t173 _ ⟨C_of_blk (xs := [24, a14, t147]) (HS.out.at4) (by simp)⟩ ⟨HS.out.begin (l := []) (rest := [blk g16 #[.int .i64 a12, .int .i64 a13, .int .i64 a14, .int .i64 a15] 32, blk g19 #[.int .i64 0, .int .i64 0, .int .i64 0, .int .i64 0, .int .i64 0, .int .i64 0, .int .i64 0, .int .i64 0] 38, blk g199 #[.int .i64 a12, .int .i64 a13] 3, blk g276 #[.int .i64 0, .int .i64 0, .int .i64 0, .int .i64 0, .int .i64 0, .int .i64 0, .int .i64 0, .int .i64 0] 38, blk g281 #[.int .i64 24, .int .i64 a14, .int .i64 t147] 3])⟩ HA174).mono ?_
          rintro e_ w285 ⟨rfl, hS⟩
          have HS_ : Aside0 (Sep (fps []) w [blk g16 #[.int .i64 a12, .int .i64 a13, .int .i64 a14, .int .i64 a15] 32, blk g19 #[.int .i64 0, .int .i64 0, .int .i64 0, .int .i64 0, .int .i64 0, .int .i64 0, .int .i64 0, .int .i64 0] 38, blk g199 #[.int .i64 a12, .int .i64 a13] 3, blk g276 #[.int .i64 0, .int .i64 0, .int .i64 0, .int .i64 0, .int .i64 0, .int .i64 0, .int .i64 0, .int .i64 0] 38, blk g281 #[.int .i64 24, .int .i64 a14, .int .i64 t147] 3] w285) := ⟨HS.out.call (l := []) (rest := [blk g16 #[.int .i64 a12, .int .i64 a13, .int .i64 a14, .int .i64 a15] 32, blk g19 #[.int .i64 0, .int .i64 0, .int .i64 0, .int .i64 0, .int .i64 0, .int .i64 0, .int .i64 0, .int .i64 0] 38, blk g199 #[.int .i64 a12, .int .i64 a13] 3, blk g276 #[.int .i64 0, .int .i64 0, .int .i64 0, .int .i64 0, .int .i64 0, .int .i64 0, .int .i64 0, .int .i64 0] 38, blk g281 #[.int .i64 24, .int .i64 a14, .int .i64 t147] 3]) hS⟩
          clear HS hS
          have HS := HS_
          clear HS_
          refine ⟨_, rfl, ?_⟩
          refine hK.out _ _ (⟨blk_cellv (HS.out.at0) 2 rfl, blk_cellv (HS.out.at0) 0 rfl, blk_cellv (HS.out.at0) 1 rfl⟩) (fun hHeld => ?_)
          clear hK K
          refine norm_ (a' := ?_) ?_ ?_
          rotate_left
          · show Act.put _ (some 21) _ = _
            simp only [Act.put, List.setIfInBounds_toArray, List.set_cons_zero, List.set_cons_succ, i64_w, i32_w]
            rfl
          refine pure_ (i := 13) (N := some 25) (v := ?_) (a' := ?_) #[true, true, true, true, true, true, true, true, true, true, true, true, true, true, true, false] rfl rfl (by kernel_rfl) (fun _ _ _ h => h) (Or.inl ⟨by rfl, ?_⟩) ?_ ?_
          rotate_left
          · intro w'
            go_simp
            with_reducible rfl
          rotate_left
          · simp only [Act.put, List.setIfInBounds_toArray, List.set_cons_zero, List.set_cons_succ, i64_w, i32_w]
            rfl
          refine one_ (i := 15) (N := none) #[true, true, true, true, true, true, true, true, true, true, true, true, true, true, true, true] rfl rfl (by kernel_rfl) (by decide) (fun K hK => ?_)
          have hc287 := blk_cellv (v := .int .i64 0) (HS.out.at3) 0 rfl
          have hz288 := blk_fz (HS.out.at3) 0
          have hc289 := blk_cellv (v := .int .i64 0) (HS.out.at3) 1 rfl
          have hz290 := blk_fz (HS.out.at3) 1
          have hc291 := blk_cellv (v := .int .i64 0) (HS.out.at3) 2 rfl
          have hz292 := blk_fz (HS.out.at3) 2
          have hc293 := blk_cellv (v := .int .i64 0) (HS.out.at3) 3 rfl
          have hz294 := blk_fz (HS.out.at3) 3
          have hc295 := blk_cellv (v := .int .i64 0) (HS.out.at3) 4 rfl
          have hz296 := blk_fz (HS.out.at3) 4
          have hc297 := blk_cellv (v := .int .i64 0) (HS.out.at3) 5 rfl
          have hz298 := blk_fz (HS.out.at3) 5
          have hc299 := blk_cellv (v := .int .i64 0) (HS.out.at3) 6 rfl
          have hz300 := blk_fz (HS.out.at3) 6
          have hc301 := blk_cellv (v := .int .i64 0) (HS.out.at3) 7 rfl
          have hz302 := blk_fz (HS.out.at3) 7
          refine store_step (w1 := (World.setCell (World.setCell (World.setCell (World.setCell (World.setCell (World.setCell (World.setCell (World.setCell w285 ⟨g276, 0, none⟩ (.int .i64 t173)) ⟨g276, 1, none⟩ (.int .i64 (wrap64 (a13 - 8)))) ⟨g276, 2, none⟩ (.int .i64 0)) ⟨g276, 3, none⟩ (.int .i64 0)) ⟨g276, 4, none⟩ (.int .i64 0)) ⟨g276, 5, none⟩ (.int .i64 0)) ⟨g276, 6, none⟩ (.int .i64 0)) ⟨g276, 7, none⟩ (.int .i64 0))) (by rfl) rfl ?hr ?_
          case hr => first | (go_simp; done) | (go_simp; rfl)
          clear hc287 hz288 hc289 hz290 hc291 hz292 hc293 hz294 hc295 hz296 hc297 hz298 hc299 hz300 hc301 hz302
          intro w286 hst
          have hq0 : Sep (fps []) w [blk g16 #[.int .i64 a12, .int .i64 a13, .int .i64 a14, .int .i64 a15] 32, blk g19 #[.int .i64 0, .int .i64 0, .int .i64 0, .int .i64 0, .int .i64 0, .int .i64 0, .int .i64 0, .int .i64 0] 38, blk g199 #[.int .i64 a12, .int .i64 a13] 3, blk g276 #[.int .i64 t173, .int .i64 0, .int .i64 0, .int .i64 0, .int .i64 0, .int .i64 0, .int .i64 0, .int .i64 0] 38, blk g281 #[.int .i64 24, .int .i64 a14, .int .i64 t147] 3] (World.setCell w285 ⟨g276, 0, none⟩ (.int .i64 t173)) := (HS.out).set1 (l1 := [blk g16 #[.int .i64 a12, .int .i64 a13, .int .i64 a14, .int .i64 a15] 32, blk g19 #[.int .i64 0, .int .i64 0, .int .i64 0, .int .i64 0, .int .i64 0, .int .i64 0, .int .i64 0, .int .i64 0] 38, blk g199 #[.int .i64 a12, .int .i64 a13] 3]) (l2 := [blk g281 #[.int .i64 24, .int .i64 a14, .int .i64 t147] 3]) 0 (.int .i64 t173)
          have hq1 : Sep (fps []) w [blk g16 #[.int .i64 a12, .int .i64 a13, .int .i64 a14, .int .i64 a15] 32, blk g19 #[.int .i64 0, .int .i64 0, .int .i64 0, .int .i64 0, .int .i64 0, .int .i64 0, .int .i64 0, .int .i64 0] 38, blk g199 #[.int .i64 a12, .int .i64 a13] 3, blk g276 #[.int .i64 t173, .int .i64 (wrap64 (a13 - 8)), .int .i64 0, .int .i64 0, .int .i64 0, .int .i64 0, .int .i64 0, .int .i64 0] 38, blk g281 #[.int .i64 24, .int .i64 a14, .int .i64 t147] 3] (World.setCell (World.setCell w285 ⟨g276, 0, none⟩ (.int .i64 t173)) ⟨g276, 1, none⟩ (.int .i64 (wrap64 (a13 - 8)))) := (hq0).set1 (l1 := [blk g16 #[.int .i64 a12, .int .i64 a13, .int .i64 a14, .int .i64 a15] 32, blk g19 #[.int .i64 0, .int .i64 0, .int .i64 0, .int .i64 0, .int .i64 0, .int .i64 0, .int .i64 0, .int .i64 0] 38, blk g199 #[.int .i64 a12, .int .i64 a13] 3]) (l2 := [blk g281 #[.int .i64 24, .int .i64 a14, .int .i64 t147] 3]) 1 (.int .i64 (wrap64 (a13 - 8)))
          have hq2 : Sep (fps []) w [blk g16 #[.int .i64 a12, .int .i64 a13, .int .i64 a14, .int .i64 a15] 32, blk g19 #[.int .i64 0, .int .i64 0, .int .i64 0, .int .i64 0, .int .i64 0, .int .i64 0, .int .i64 0, .int .i64 0] 38, blk g199 #[.int .i64 a12, .int .i64 a13] 3, blk g276 #[.int .i64 t173, .int .i64 (wrap64 (a13 - 8)), .int .i64 0, .int .i64 0, .int .i64 0, .int .i64 0, .int .i64 0, .int .i64 0] 38, blk g281 #[.int .i64 24, .int .i64 a14, .int .i64 t147] 3] (World.setCell (World.setCell (World.setCell w285 ⟨g276, 0, none⟩ (.int .i64 t173)) ⟨g276, 1, none⟩ (.int .i64 (wrap64 (a13 - 8)))) ⟨g276, 2, none⟩ (.int .i64 0)) := (hq1).set1 (l1 := [blk g16 #[.int .i64 a12, .int .i64 a13, .int .i64 a14, .int .i64 a15] 32, blk g19 #[.int .i64 0, .int .i64 0, .int .i64 0, .int .i64 0, .int .i64 0, .int .i64 0, .int .i64 0, .int .i64 0] 38, blk g199 #[.int .i64 a12, .int .i64 a13] 3]) (l2 := [blk g281 #[.int .i64 24, .int .i64 a14, .int .i64 t147] 3]) 2 (.int .i64 0)
          have hq3 : Sep (fps []) w [blk g16 #[.int .i64 a12, .int .i64 a13, .int .i64 a14, .int .i64 a15] 32, blk g19 #[.int .i64 0, .int .i64 0, .int .i64 0, .int .i64 0, .int .i64 0, .int .i64 0, .int .i64 0, .int .i64 0] 38, blk g199 #[.int .i64 a12, .int .i64 a13] 3, blk g276 #[.int .i64 t173, .int .i64 (wrap64 (a13 - 8)), .int .i64 0, .int .i64 0, .int .i64 0, .int .i64 0, .int .i64 0, .int .i64 0] 38, blk g281 #[.int .i64 24, .int .i64 a14, .int .i64 t147] 3] (World.setCell (World.setCell (World.setCell (World.setCell w285 ⟨g276, 0, none⟩ (.int .i64 t173)) ⟨g276, 1, none⟩ (.int .i64 (wrap64 (a13 - 8)))) ⟨g276, 2, none⟩ (.int .i64 0)) ⟨g276, 3, none⟩ (.int .i64 0)) := (hq2).set1 (l1 := [blk g16 #[.int .i64 a12, .int .i64 a13, .int .i64 a14, .int .i64 a15] 32, blk g19 #[.int .i64 0, .int .i64 0, .int .i64 0, .int .i64 0, .int .i64 0, .int .i64 0, .int .i64 0, .int .i64 0] 38, blk g199 #[.int .i64 a12, .int .i64 a13] 3]) (l2 := [blk g281 #[.int .i64 24, .int .i64 a14, .int .i64 t147] 3]) 3 (.int .i64 0)
          have hq4 : Sep (fps []) w [blk g16 #[.int .i64 a12, .int .i64 a13, .int .i64 a14, .int .i64 a15] 32, blk g19 #[.int .i64 0, .int .i64 0, .int .i64 0, .int .i64 0, .int .i64 0, .int .i64 0, .int .i64 0, .int .i64 0] 38, blk g199 #[.int .i64 a12, .int .i64 a13] 3, blk g276 #[.int .i64 t173, .int .i64 (wrap64 (a13 - 8)), .int .i64 0, .int .i64 0, .int .i64 0, .int .i64 0, .int .i64 0, .int .i64 0] 38, blk g281 #[.int .i64 24, .int .i64 a14, .int .i64 t147] 3] (World.setCell (World.setCell (World.setCell (World.setCell (World.setCell w285 ⟨g276, 0, none⟩ (.int .i64 t173)) ⟨g276, 1, none⟩ (.int .i64 (wrap64 (a13 - 8)))) ⟨g276, 2, none⟩ (.int .i64 0)) ⟨g276, 3, none⟩ (.int .i64 0)) ⟨g276, 4, none⟩ (.int .i64 0)) := (hq3).set1 (l1 := [blk g16 #[.int .i64 a12, .int .i64 a13, .int .i64 a14, .int .i64 a15] 32, blk g19 #[.int .i64 0, .int .i64 0, .int .i64 0, .int .i64 0, .int .i64 0, .int .i64 0, .int .i64 0, .int .i64 0] 38, blk g199 #[.int .i64 a12, .int .i64 a13] 3]) (l2 := [blk g281 #[.int .i64 24, .int .i64 a14, .int .i64 t147] 3]) 4 (.int .i64 0)
          have hq5 : Sep (fps []) w [blk g16 #[.int .i64 a12, .int .i64 a13, .int .i64 a14, .int .i64 a15] 32, blk g19 #[.int .i64 0, .int .i64 0, .int .i64 0, .int .i64 0, .int .i64 0, .int .i64 0, .int .i64 0, .int .i64 0] 38, blk g199 #[.int .i64 a12, .int .i64 a13] 3, blk g276 #[.int .i64 t173, .int .i64 (wrap64 (a13 - 8)), .int .i64 0, .int .i64 0, .int .i64 0, .int .i64 0, .int .i64 0, .int .i64 0] 38, blk g281 #[.int .i64 24, .int .i64 a14, .int .i64 t147] 3] (World.setCell (World.setCell (World.setCell (World.setCell (World.setCell (World.setCell w285 ⟨g276, 0, none⟩ (.int .i64 t173)) ⟨g276, 1, none⟩ (.int .i64 (wrap64 (a13 - 8)))) ⟨g276, 2, none⟩ (.int .i64 0)) ⟨g276, 3, none⟩ (.int .i64 0)) ⟨g276, 4, none⟩ (.int .i64 0)) ⟨g276, 5, none⟩ (.int .i64 0)) := (hq4).set1 (l1 := [blk g16 #[.int .i64 a12, .int .i64 a13, .int .i64 a14, .int .i64 a15] 32, blk g19 #[.int .i64 0, .int .i64 0, .int .i64 0, .int .i64 0, .int .i64 0, .int .i64 0, .int .i64 0, .int .i64 0] 38, blk g199 #[.int .i64 a12, .int .i64 a13] 3]) (l2 := [blk g281 #[.int .i64 24, .int .i64 a14, .int .i64 t147] 3]) 5 (.int .i64 0)
          have hq6 : Sep (fps []) w [blk g16 #[.int .i64 a12, .int .i64 a13, .int .i64 a14, .int .i64 a15] 32, blk g19 #[.int .i64 0, .int .i64 0, .int .i64 0, .int .i64 0, .int .i64 0, .int .i64 0, .int .i64 0, .int .i64 0] 38, blk g199 #[.int .i64 a12, .int .i64 a13] 3, blk g276 #[.int .i64 t173, .int .i64 (wrap64 (a13 - 8)), .int .i64 0, .int .i64 0, .int .i64 0, .int .i64 0, .int .i64 0, .int .i64 0] 38, blk g281 #[.int .i64 24, .int .i64 a14, .int .i64 t147] 3] (World.setCell (World.setCell (World.setCell (World.setCell (World.setCell (World.setCell (World.setCell w285 ⟨g276, 0, none⟩ (.int .i64 t173)) ⟨g276, 1, none⟩ (.int .i64 (wrap64 (a13 - 8)))) ⟨g276, 2, none⟩ (.int .i64 0)) ⟨g276, 3, none⟩ (.int .i64 0)) ⟨g276, 4, none⟩ (.int .i64 0)) ⟨g276, 5, none⟩ (.int .i64 0)) ⟨g276, 6, none⟩ (.int .i64 0)) := (hq5).set1 (l1 := [blk g16 #[.int .i64 a12, .int .i64 a13, .int .i64 a14, .int .i64 a15] 32, blk g19 #[.int .i64 0, .int .i64 0, .int .i64 0, .int .i64 0, .int .i64 0, .int .i64 0, .int .i64 0, .int .i64 0] 38, blk g199 #[.int .i64 a12, .int .i64 a13] 3]) (l2 := [blk g281 #[.int .i64 24, .int .i64 a14, .int .i64 t147] 3]) 6 (.int .i64 0)
          have hq7 : Sep (fps []) w [blk g16 #[.int .i64 a12, .int .i64 a13, .int .i64 a14, .int .i64 a15] 32, blk g19 #[.int .i64 0, .int .i64 0, .int .i64 0, .int .i64 0, .int .i64 0, .int .i64 0, .int .i64 0, .int .i64 0] 38, blk g199 #[.int .i64 a12, .int .i64 a13] 3, blk g276 #[.int .i64 t173, .int .i64 (wrap64 (a13 - 8)), .int .i64 0, .int .i64 0, .int .i64 0, .int .i64 0, .int .i64 0, .int .i64 0] 38, blk g281 #[.int .i64 24, .int .i64 a14, .int .i64 t147] 3] (World.setCell (World.setCell (World.setCell (World.setCell (World.setCell (World.setCell (World.setCell (World.setCell w285 ⟨g276, 0, none⟩ (.int .i64 t173)) ⟨g276, 1, none⟩ (.int .i64 (wrap64 (a13 - 8)))) ⟨g276, 2, none⟩ (.int .i64 0)) ⟨g276, 3, none⟩ (.int .i64 0)) ⟨g276, 4, none⟩ (.int .i64 0)) ⟨g276, 5, none⟩ (.int .i64 0)) ⟨g276, 6, none⟩ (.int .i64 0)) ⟨g276, 7, none⟩ (.int .i64 0)) := (hq6).set1 (l1 := [blk g16 #[.int .i64 a12, .int .i64 a13, .int .i64 a14, .int .i64 a15] 32, blk g19 #[.int .i64 0, .int .i64 0, .int .i64 0, .int .i64 0, .int .i64 0, .int .i64 0, .int .i64 0, .int .i64 0] 38, blk g199 #[.int .i64 a12, .int .i64 a13] 3]) (l2 := [blk g281 #[.int .i64 24, .int .i64 a14, .int .i64 t147] 3]) 7 (.int .i64 0)
          have HS_ : Aside0 (Sep (fps []) w [blk g16 #[.int .i64 a12, .int .i64 a13, .int .i64 a14, .int .i64 a15] 32, blk g19 #[.int .i64 0, .int .i64 0, .int .i64 0, .int .i64 0, .int .i64 0, .int .i64 0, .int .i64 0, .int .i64 0] 38, blk g199 #[.int .i64 a12, .int .i64 a13] 3, blk g276 #[.int .i64 t173, .int .i64 (wrap64 (a13 - 8)), .int .i64 0, .int .i64 0, .int .i64 0, .int .i64 0, .int .i64 0, .int .i64 0] 38, blk g281 #[.int .i64 24, .int .i64 a14, .int .i64 t147] 3] w286) := ⟨by rw [hst]; exact hq7⟩
          clear hq0 hq1 hq2 hq3 hq4 hq5 hq6 hq7
          clear HS hst
          have HS := HS_
          clear HS_
          refine hK.out _ _ (⟨blk_cellv (HS.out.at0) 2 rfl, blk_cellv (HS.out.at0) 0 rfl, blk_cellv (HS.out.at0) 1 rfl⟩) (fun hHeld => ?_)
          clear hK K
          refine done_ (by kernel_rfl) ?_
          go_wp2_with fail
          go_meet
          case rel => exact ⟨g199, g281, g276, (by first | rfl | (simp [IntKind.wrap_u32]; done)), ⟨(((((HS.out).front 3 (by simp)).front 4 (by simp)).front 4 (by simp)).front 4 (by simp)).front 4 (by simp)⟩⟩
      · refine box_step (by rfl) (N := 5) rfl (cs := #[.int .i64 0, .int .i64 0, .int .i64 0, .int .i64 0, .int .i64 0, .int .i64 0, .int .i64 0, .int .i64 0]) (t := 38) ?hr ?_
        case hr => first | (go_simp; done) | (go_simp; rfl)
        intro g303 hg w304 hbox hb
        have HS_ : Aside0 (Sep (fps []) w [blk g16 #[.int .i64 a12, .int .i64 a13, .int .i64 a14, .int .i64 a15] 32, blk g19 #[.int .i64 0, .int .i64 0, .int .i64 0, .int .i64 0, .int .i64 0, .int .i64 0, .int .i64 0, .int .i64 0] 38, blk g303 #[.int .i64 0, .int .i64 0, .int .i64 0, .int .i64 0, .int .i64 0, .int .i64 0, .int .i64 0, .int .i64 0] 38] w304) := ⟨HS.out.box hg hbox hb⟩
        clear HS hg hbox hb
        have HS := HS_
        clear HS_
        refine hK.out _ _ (⟨blk_cellv (HS.out.at0) 2 rfl, blk_cellv (HS.out.at0) 0 rfl, blk_cellv (HS.out.at0) 1 rfl⟩) (fun hHeld => ?_)
        clear hK K
        refine norm_ (a' := ?_) ?_ ?_
        rotate_left
        · show Act.put _ (some 5) _ = _
          simp only [Act.put, List.setIfInBounds_toArray, List.set_cons_zero, List.set_cons_succ, i64_w, i32_w]
          rfl
        refine one_ (i := 6) (N := some 18) #[true, true, true, true, true, true, true, false, false, false, true, true, true, false, true, false] rfl rfl (by kernel_rfl) (by decide) (fun K hK => ?_)
        refine slice_step (n := 2) (by rfl) (N := 18) rfl (cs := #[.int .i64 a12, .int .i64 a13]) (t := 3) ?hr ?_
        case hr => first | (go_simp; done) | (go_simp; rfl)
        intro g306 hg w307 hbox hb
        have HS_ : Aside0 (Sep (fps []) w [blk g16 #[.int .i64 a12, .int .i64 a13, .int .i64 a14, .int .i64 a15] 32, blk g19 #[.int .i64 0, .int .i64 0, .int .i64 0, .int .i64 0, .int .i64 0, .int .i64 0, .int .i64 0, .int .i64 0] 38, blk g303 #[.int .i64 0, .int .i64 0, .int .i64 0, .int .i64 0, .int .i64 0, .int .i64 0, .int .i64 0, .int .i64 0] 38, blk g306 #[.int .i64 a12, .int .i64 a13] 3] w307) := ⟨HS.out.box hg hbox hb⟩
        clear HS hg hbox hb
        have HS := HS_
        clear HS_
        refine hK.out _ _ (⟨blk_cellv (HS.out.at0) 2 rfl, blk_cellv (HS.out.at0) 0 rfl, blk_cellv (HS.out.at0) 1 rfl⟩) (fun hHeld => ?_)
        clear hK K
        refine norm_ (a' := ?_) ?_ ?_
        rotate_left
        · show Act.put _ (some 18) _ = _
          simp only [Act.put, List.setIfInBounds_toArray, List.set_cons_zero, List.set_cons_succ, i64_w, i32_w]
          rfl
        refine one_ (i := 7) (N := some 19) #[true, true, true, true, true, true, true, true, false, false, true, true, true, false, true, false] rfl rfl (by kernel_rfl) (by decide) (fun K hK => ?_)
        refine goes_ Try.func42 (by kernel_rfl) rfl #[.slice (some ⟨g306, 0, none⟩) 2 2] (by rfl) rfl rfl (by (try simp only [List.map_toArray, List.map_cons, List.map_nil]); first | done | rfl) ?_
        refine (ratio_Mul.calls _ [a12, a13] (some ⟨g306, 0, none⟩) 2 t147 _ ⟨C_of_blk (xs := [a12, a13]) (HS.out.at3) (by simp)⟩ ⟨HS.out.begin (l := []) (rest := [blk g16 #[.int .i64 a12, .int .i64 a13, .int .i64 a14, .int .i64 a15] 32, blk g19 #[.int .i64 0, .int .i64 0, .int .i64 0, .int .i64 0, .int .i64 0, .int .i64 0, .int .i64 0, .int .i64 0] 38, blk g303 #[.int .i64 0, .int .i64 0, .int .i64 0, .int .i64 0, .int .i64 0, .int .i64 0, .int .i64 0, .int .i64 0] 38, blk g306 #[.int .i64 a12, .int .i64 a13] 3])⟩ HA148).mono ?_
        rintro e_ w310 ⟨rfl, hS⟩
        have HS_ : Aside0 (Sep (fps []) w [blk g16 #[.int .i64 a12, .int .i64 a13, .int .i64 a14, .int .i64 a15] 32, blk g19 #[.int .i64 0, .int .i64 0, .int .i64 0, .int .i64 0, .int .i64 0, .int .i64 0, .int .i64 0, .int .i64 0] 38, blk g303 #[.int .i64 0, .int .i64 0, .int .i64 0, .int .i64 0, .int .i64 0, .int .i64 0, .int .i64 0, .int .i64 0] 38, blk g306 #[.int .i64 a12, .int .i64 a13] 3] w310) := ⟨HS.out.call (l := []) (rest := [blk g16 #[.int .i64 a12, .int .i64 a13, .int .i64 a14, .int .i64 a15] 32, blk g19 #[.int .i64 0, .int .i64 0, .int .i64 0, .int .i64 0, .int .i64 0, .int .i64 0, .int .i64 0, .int .i64 0] 38, blk g303 #[.int .i64 0, .int .i64 0, .int .i64 0, .int .i64 0, .int .i64 0, .int .i64 0, .int .i64 0, .int .i64 0] 38, blk g306 #[.int .i64 a12, .int .i64 a13] 3]) hS⟩
        clear HS hS
        have HS := HS_
        clear HS_
        refine ⟨_, rfl, ?_⟩
        refine hK.out _ _ (⟨blk_cellv (HS.out.at0) 2 rfl, blk_cellv (HS.out.at0) 0 rfl, blk_cellv (HS.out.at0) 1 rfl⟩) (fun hHeld => ?_)
        clear hK K
        refine norm_ (a' := ?_) ?_ ?_
        rotate_left
        · show Act.put _ (some 19) _ = _
          simp only [Act.put, List.setIfInBounds_toArray, List.set_cons_zero, List.set_cons_succ, i64_w, i32_w]
          rfl
        refine one_ (i := 8) (N := some 20) #[true, true, true, true, true, true, true, true, true, false, true, true, true, false, true, false] rfl rfl (by kernel_rfl) (by decide) (fun K hK => ?_)
        refine slice_step (n := 3) (by rfl) (N := 20) rfl (cs := #[.int .i64 24, .int .i64 a14, .int .i64 t147]) (t := 3) ?hr ?_
        case hr => first | (go_simp; done) | (go_simp; rfl)
        intro g311 hg w312 hbox hb
        have HS_ : Aside0 (Sep (fps []) w [blk g16 #[.int .i64 a12, .int .i64 a13, .int .i64 a14, .int .i64 a15] 32, blk g19 #[.int .i64 0, .int .i64 0, .int .i64 0, .int .i64 0, .int .i64 0, .int .i64 0, .int .i64 0, .int .i64 0] 38, blk g303 #[.int .i64 0, .int .i64 0, .int .i64 0, .int .i64 0, .int .i64 0, .int .i64 0, .int .i64 0, .int .i64 0] 38, blk g306 #[.int .i64 a12, .int .i64 a13] 3, blk g311 #[.int .i64 24, .int .i64 a14, .int .i64 t147] 3] w312) := ⟨HS.out.box hg hbox hb⟩
        clear HS hg hbox hb
        have HS := HS_
        clear HS_
        refine hK.out _ _ (⟨blk_cellv (HS.out.at0) 2 rfl, blk_cellv (HS.out.at0) 0 rfl, blk_cellv (HS.out.at0) 1 rfl⟩) (fun hHeld => ?_)
        clear hK K
        refine norm_ (a' := ?_) ?_ ?_
        rotate_left
        · show Act.put _ (some 20) _ = _
          simp only [Act.put, List.setIfInBounds_toArray, List.set_cons_zero, List.set_cons_succ, i64_w, i32_w]
          rfl
        refine one_ (i := 9) (N := some 21) #[true, true, true, true, true, true, true, true, true, true, true, true, true, false, true, false] rfl rfl (by kernel_rfl) (by decide) (fun K hK => ?_)
        refine goes_ Try.func41 (by kernel_rfl) rfl #[.slice (some ⟨g311, 0, none⟩) 3 3] (by rfl) rfl rfl (by (try simp only [List.map_toArray, List.map_cons, List.map_nil]); first | done | rfl) ?_
        refine (ratio_Add.calls _ [24, a14, t147] (some ⟨g311, 0, none⟩) 3 t173 _ ⟨C_of_blk (xs := [24, a14, t147]) (HS.out.at4) (by simp)⟩ ⟨HS.out.begin (l := []) (rest := [blk g16 #[.int .i64 a12, .int .i64 a13, .int .i64 a14, .int .i64 a15] 32, blk g19 #[.int .i64 0, .int .i64 0, .int .i64 0, .int .i64 0, .int .i64 0, .int .i64 0, .int .i64 0, .int .i64 0] 38, blk g303 #[.int .i64 0, .int .i64 0, .int .i64 0, .int .i64 0, .int .i64 0, .int .i64 0, .int .i64 0, .int .i64 0] 38, blk g306 #[.int .i64 a12, .int .i64 a13] 3, blk g311 #[.int .i64 24, .int .i64 a14, .int .i64 t147] 3])⟩ HA174).mono ?_
        rintro e_ w315 ⟨rfl, hS⟩
        have HS_ : Aside0 (Sep (fps []) w [blk g16 #[.int .i64 a12, .int .i64 a13, .int .i64 a14, .int .i64 a15] 32, blk g19 #[.int .i64 0, .int .i64 0, .int .i64 0, .int .i64 0, .int .i64 0, .int .i64 0, .int .i64 0, .int .i64 0] 38, blk g303 #[.int .i64 0, .int .i64 0, .int .i64 0, .int .i64 0, .int .i64 0, .int .i64 0, .int .i64 0, .int .i64 0] 38, blk g306 #[.int .i64 a12, .int .i64 a13] 3, blk g311 #[.int .i64 24, .int .i64 a14, .int .i64 t147] 3] w315) := ⟨HS.out.call (l := []) (rest := [blk g16 #[.int .i64 a12, .int .i64 a13, .int .i64 a14, .int .i64 a15] 32, blk g19 #[.int .i64 0, .int .i64 0, .int .i64 0, .int .i64 0, .int .i64 0, .int .i64 0, .int .i64 0, .int .i64 0] 38, blk g303 #[.int .i64 0, .int .i64 0, .int .i64 0, .int .i64 0, .int .i64 0, .int .i64 0, .int .i64 0, .int .i64 0] 38, blk g306 #[.int .i64 a12, .int .i64 a13] 3, blk g311 #[.int .i64 24, .int .i64 a14, .int .i64 t147] 3]) hS⟩
        clear HS hS
        have HS := HS_
        clear HS_
        refine ⟨_, rfl, ?_⟩
        refine hK.out _ _ (⟨blk_cellv (HS.out.at0) 2 rfl, blk_cellv (HS.out.at0) 0 rfl, blk_cellv (HS.out.at0) 1 rfl⟩) (fun hHeld => ?_)
        clear hK K
        refine norm_ (a' := ?_) ?_ ?_
        rotate_left
        · show Act.put _ (some 21) _ = _
          simp only [Act.put, List.setIfInBounds_toArray, List.set_cons_zero, List.set_cons_succ, i64_w, i32_w]
          rfl
        refine pure_ (i := 13) (N := some 25) (v := ?_) (a' := ?_) #[true, true, true, true, true, true, true, true, true, true, true, true, true, true, true, false] rfl rfl (by kernel_rfl) (fun _ _ _ h => h) (Or.inl ⟨by rfl, ?_⟩) ?_ ?_
        rotate_left
        · intro w'
          go_simp
          with_reducible rfl
        rotate_left
        · simp only [Act.put, List.setIfInBounds_toArray, List.set_cons_zero, List.set_cons_succ, i64_w, i32_w]
          rfl
        refine one_ (i := 15) (N := none) #[true, true, true, true, true, true, true, true, true, true, true, true, true, true, true, true] rfl rfl (by kernel_rfl) (by decide) (fun K hK => ?_)
        have hc317 := blk_cellv (v := .int .i64 0) (HS.out.at2) 0 rfl
        have hz318 := blk_fz (HS.out.at2) 0
        have hc319 := blk_cellv (v := .int .i64 0) (HS.out.at2) 1 rfl
        have hz320 := blk_fz (HS.out.at2) 1
        have hc321 := blk_cellv (v := .int .i64 0) (HS.out.at2) 2 rfl
        have hz322 := blk_fz (HS.out.at2) 2
        have hc323 := blk_cellv (v := .int .i64 0) (HS.out.at2) 3 rfl
        have hz324 := blk_fz (HS.out.at2) 3
        have hc325 := blk_cellv (v := .int .i64 0) (HS.out.at2) 4 rfl
        have hz326 := blk_fz (HS.out.at2) 4
        have hc327 := blk_cellv (v := .int .i64 0) (HS.out.at2) 5 rfl
        have hz328 := blk_fz (HS.out.at2) 5
        have hc329 := blk_cellv (v := .int .i64 0) (HS.out.at2) 6 rfl
        have hz330 := blk_fz (HS.out.at2) 6
        have hc331 := blk_cellv (v := .int .i64 0) (HS.out.at2) 7 rfl
        have hz332 := blk_fz (HS.out.at2) 7
        refine store_step (w1 := (World.setCell (World.setCell (World.setCell (World.setCell (World.setCell (World.setCell (World.setCell (World.setCell w315 ⟨g303, 0, none⟩ (.int .i64 t173)) ⟨g303, 1, none⟩ (.int .i64 (wrap64 (a13 - 8)))) ⟨g303, 2, none⟩ (.int .i64 0)) ⟨g303, 3, none⟩ (.int .i64 0)) ⟨g303, 4, none⟩ (.int .i64 0)) ⟨g303, 5, none⟩ (.int .i64 0)) ⟨g303, 6, none⟩ (.int .i64 0)) ⟨g303, 7, none⟩ (.int .i64 0))) (by rfl) rfl ?hr ?_
        case hr => first | (go_simp; done) | (go_simp; rfl)
        clear hc317 hz318 hc319 hz320 hc321 hz322 hc323 hz324 hc325 hz326 hc327 hz328 hc329 hz330 hc331 hz332
        intro w316 hst
        have hq0 : Sep (fps []) w [blk g16 #[.int .i64 a12, .int .i64 a13, .int .i64 a14, .int .i64 a15] 32, blk g19 #[.int .i64 0, .int .i64 0, .int .i64 0, .int .i64 0, .int .i64 0, .int .i64 0, .int .i64 0, .int .i64 0] 38, blk g303 #[.int .i64 t173, .int .i64 0, .int .i64 0, .int .i64 0, .int .i64 0, .int .i64 0, .int .i64 0, .int .i64 0] 38, blk g306 #[.int .i64 a12, .int .i64 a13] 3, blk g311 #[.int .i64 24, .int .i64 a14, .int .i64 t147] 3] (World.setCell w315 ⟨g303, 0, none⟩ (.int .i64 t173)) := (HS.out).set1 (l1 := [blk g16 #[.int .i64 a12, .int .i64 a13, .int .i64 a14, .int .i64 a15] 32, blk g19 #[.int .i64 0, .int .i64 0, .int .i64 0, .int .i64 0, .int .i64 0, .int .i64 0, .int .i64 0, .int .i64 0] 38]) (l2 := [blk g306 #[.int .i64 a12, .int .i64 a13] 3, blk g311 #[.int .i64 24, .int .i64 a14, .int .i64 t147] 3]) 0 (.int .i64 t173)
        have hq1 : Sep (fps []) w [blk g16 #[.int .i64 a12, .int .i64 a13, .int .i64 a14, .int .i64 a15] 32, blk g19 #[.int .i64 0, .int .i64 0, .int .i64 0, .int .i64 0, .int .i64 0, .int .i64 0, .int .i64 0, .int .i64 0] 38, blk g303 #[.int .i64 t173, .int .i64 (wrap64 (a13 - 8)), .int .i64 0, .int .i64 0, .int .i64 0, .int .i64 0, .int .i64 0, .int .i64 0] 38, blk g306 #[.int .i64 a12, .int .i64 a13] 3, blk g311 #[.int .i64 24, .int .i64 a14, .int .i64 t147] 3] (World.setCell (World.setCell w315 ⟨g303, 0, none⟩ (.int .i64 t173)) ⟨g303, 1, none⟩ (.int .i64 (wrap64 (a13 - 8)))) := (hq0).set1 (l1 := [blk g16 #[.int .i64 a12, .int .i64 a13, .int .i64 a14, .int .i64 a15] 32, blk g19 #[.int .i64 0, .int .i64 0, .int .i64 0, .int .i64 0, .int .i64 0, .int .i64 0, .int .i64 0, .int .i64 0] 38]) (l2 := [blk g306 #[.int .i64 a12, .int .i64 a13] 3, blk g311 #[.int .i64 24, .int .i64 a14, .int .i64 t147] 3]) 1 (.int .i64 (wrap64 (a13 - 8)))
        have hq2 : Sep (fps []) w [blk g16 #[.int .i64 a12, .int .i64 a13, .int .i64 a14, .int .i64 a15] 32, blk g19 #[.int .i64 0, .int .i64 0, .int .i64 0, .int .i64 0, .int .i64 0, .int .i64 0, .int .i64 0, .int .i64 0] 38, blk g303 #[.int .i64 t173, .int .i64 (wrap64 (a13 - 8)), .int .i64 0, .int .i64 0, .int .i64 0, .int .i64 0, .int .i64 0, .int .i64 0] 38, blk g306 #[.int .i64 a12, .int .i64 a13] 3, blk g311 #[.int .i64 24, .int .i64 a14, .int .i64 t147] 3] (World.setCell (World.setCell (World.setCell w315 ⟨g303, 0, none⟩ (.int .i64 t173)) ⟨g303, 1, none⟩ (.int .i64 (wrap64 (a13 - 8)))) ⟨g303, 2, none⟩ (.int .i64 0)) := (hq1).set1 (l1 := [blk g16 #[.int .i64 a12, .int .i64 a13, .int .i64 a14, .int .i64 a15] 32, blk g19 #[.int .i64 0, .int .i64 0, .int .i64 0, .int .i64 0, .int .i64 0, .int .i64 0, .int .i64 0, .int .i64 0] 38]) (l2 := [blk g306 #[.int .i64 a12, .int .i64 a13] 3, blk g311 #[.int .i64 24, .int .i64 a14, .int .i64 t147] 3]) 2 (.int .i64 0)
        have hq3 : Sep (fps []) w [blk g16 #[.int .i64 a12, .int .i64 a13, .int .i64 a14, .int .i64 a15] 32, blk g19 #[.int .i64 0, .int .i64 0, .int .i64 0, .int .i64 0, .int .i64 0, .int .i64 0, .int .i64 0, .int .i64 0] 38, blk g303 #[.int .i64 t173, .int .i64 (wrap64 (a13 - 8)), .int .i64 0, .int .i64 0, .int .i64 0, .int .i64 0, .int .i64 0, .int .i64 0] 38, blk g306 #[.int .i64 a12, .int .i64 a13] 3, blk g311 #[.int .i64 24, .int .i64 a14, .int .i64 t147] 3] (World.setCell (World.setCell (World.setCell (World.setCell w315 ⟨g303, 0, none⟩ (.int .i64 t173)) ⟨g303, 1, none⟩ (.int .i64 (wrap64 (a13 - 8)))) ⟨g303, 2, none⟩ (.int .i64 0)) ⟨g303, 3, none⟩ (.int .i64 0)) := (hq2).set1 (l1 := [blk g16 #[.int .i64 a12, .int .i64 a13, .int .i64 a14, .int .i64 a15] 32, blk g19 #[.int .i64 0, .int .i64 0, .int .i64 0, .int .i64 0, .int .i64 0, .int .i64 0, .int .i64 0, .int .i64 0] 38]) (l2 := [blk g306 #[.int .i64 a12, .int .i64 a13] 3, blk g311 #[.int .i64 24, .int .i64 a14, .int .i64 t147] 3]) 3 (.int .i64 0)
        have hq4 : Sep (fps []) w [blk g16 #[.int .i64 a12, .int .i64 a13, .int .i64 a14, .int .i64 a15] 32, blk g19 #[.int .i64 0, .int .i64 0, .int .i64 0, .int .i64 0, .int .i64 0, .int .i64 0, .int .i64 0, .int .i64 0] 38, blk g303 #[.int .i64 t173, .int .i64 (wrap64 (a13 - 8)), .int .i64 0, .int .i64 0, .int .i64 0, .int .i64 0, .int .i64 0, .int .i64 0] 38, blk g306 #[.int .i64 a12, .int .i64 a13] 3, blk g311 #[.int .i64 24, .int .i64 a14, .int .i64 t147] 3] (World.setCell (World.setCell (World.setCell (World.setCell (World.setCell w315 ⟨g303, 0, none⟩ (.int .i64 t173)) ⟨g303, 1, none⟩ (.int .i64 (wrap64 (a13 - 8)))) ⟨g303, 2, none⟩ (.int .i64 0)) ⟨g303, 3, none⟩ (.int .i64 0)) ⟨g303, 4, none⟩ (.int .i64 0)) := (hq3).set1 (l1 := [blk g16 #[.int .i64 a12, .int .i64 a13, .int .i64 a14, .int .i64 a15] 32, blk g19 #[.int .i64 0, .int .i64 0, .int .i64 0, .int .i64 0, .int .i64 0, .int .i64 0, .int .i64 0, .int .i64 0] 38]) (l2 := [blk g306 #[.int .i64 a12, .int .i64 a13] 3, blk g311 #[.int .i64 24, .int .i64 a14, .int .i64 t147] 3]) 4 (.int .i64 0)
        have hq5 : Sep (fps []) w [blk g16 #[.int .i64 a12, .int .i64 a13, .int .i64 a14, .int .i64 a15] 32, blk g19 #[.int .i64 0, .int .i64 0, .int .i64 0, .int .i64 0, .int .i64 0, .int .i64 0, .int .i64 0, .int .i64 0] 38, blk g303 #[.int .i64 t173, .int .i64 (wrap64 (a13 - 8)), .int .i64 0, .int .i64 0, .int .i64 0, .int .i64 0, .int .i64 0, .int .i64 0] 38, blk g306 #[.int .i64 a12, .int .i64 a13] 3, blk g311 #[.int .i64 24, .int .i64 a14, .int .i64 t147] 3] (World.setCell (World.setCell (World.setCell (World.setCell (World.setCell (World.setCell w315 ⟨g303, 0, none⟩ (.int .i64 t173)) ⟨g303, 1, none⟩ (.int .i64 (wrap64 (a13 - 8)))) ⟨g303, 2, none⟩ (.int .i64 0)) ⟨g303, 3, none⟩ (.int .i64 0)) ⟨g303, 4, none⟩ (.int .i64 0)) ⟨g303, 5, none⟩ (.int .i64 0)) := (hq4).set1 (l1 := [blk g16 #[.int .i64 a12, .int .i64 a13, .int .i64 a14, .int .i64 a15] 32, blk g19 #[.int .i64 0, .int .i64 0, .int .i64 0, .int .i64 0, .int .i64 0, .int .i64 0, .int .i64 0, .int .i64 0] 38]) (l2 := [blk g306 #[.int .i64 a12, .int .i64 a13] 3, blk g311 #[.int .i64 24, .int .i64 a14, .int .i64 t147] 3]) 5 (.int .i64 0)
        have hq6 : Sep (fps []) w [blk g16 #[.int .i64 a12, .int .i64 a13, .int .i64 a14, .int .i64 a15] 32, blk g19 #[.int .i64 0, .int .i64 0, .int .i64 0, .int .i64 0, .int .i64 0, .int .i64 0, .int .i64 0, .int .i64 0] 38, blk g303 #[.int .i64 t173, .int .i64 (wrap64 (a13 - 8)), .int .i64 0, .int .i64 0, .int .i64 0, .int .i64 0, .int .i64 0, .int .i64 0] 38, blk g306 #[.int .i64 a12, .int .i64 a13] 3, blk g311 #[.int .i64 24, .int .i64 a14, .int .i64 t147] 3] (World.setCell (World.setCell (World.setCell (World.setCell (World.setCell (World.setCell (World.setCell w315 ⟨g303, 0, none⟩ (.int .i64 t173)) ⟨g303, 1, none⟩ (.int .i64 (wrap64 (a13 - 8)))) ⟨g303, 2, none⟩ (.int .i64 0)) ⟨g303, 3, none⟩ (.int .i64 0)) ⟨g303, 4, none⟩ (.int .i64 0)) ⟨g303, 5, none⟩ (.int .i64 0)) ⟨g303, 6, none⟩ (.int .i64 0)) := (hq5).set1 (l1 := [blk g16 #[.int .i64 a12, .int .i64 a13, .int .i64 a14, .int .i64 a15] 32, blk g19 #[.int .i64 0, .int .i64 0, .int .i64 0, .int .i64 0, .int .i64 0, .int .i64 0, .int .i64 0, .int .i64 0] 38]) (l2 := [blk g306 #[.int .i64 a12, .int .i64 a13] 3, blk g311 #[.int .i64 24, .int .i64 a14, .int .i64 t147] 3]) 6 (.int .i64 0)
        have hq7 : Sep (fps []) w [blk g16 #[.int .i64 a12, .int .i64 a13, .int .i64 a14, .int .i64 a15] 32, blk g19 #[.int .i64 0, .int .i64 0, .int .i64 0, .int .i64 0, .int .i64 0, .int .i64 0, .int .i64 0, .int .i64 0] 38, blk g303 #[.int .i64 t173, .int .i64 (wrap64 (a13 - 8)), .int .i64 0, .int .i64 0, .int .i64 0, .int .i64 0, .int .i64 0, .int .i64 0] 38, blk g306 #[.int .i64 a12, .int .i64 a13] 3, blk g311 #[.int .i64 24, .int .i64 a14, .int .i64 t147] 3] (World.setCell (World.setCell (World.setCell (World.setCell (World.setCell (World.setCell (World.setCell (World.setCell w315 ⟨g303, 0, none⟩ (.int .i64 t173)) ⟨g303, 1, none⟩ (.int .i64 (wrap64 (a13 - 8)))) ⟨g303, 2, none⟩ (.int .i64 0)) ⟨g303, 3, none⟩ (.int .i64 0)) ⟨g303, 4, none⟩ (.int .i64 0)) ⟨g303, 5, none⟩ (.int .i64 0)) ⟨g303, 6, none⟩ (.int .i64 0)) ⟨g303, 7, none⟩ (.int .i64 0)) := (hq6).set1 (l1 := [blk g16 #[.int .i64 a12, .int .i64 a13, .int .i64 a14, .int .i64 a15] 32, blk g19 #[.int .i64 0, .int .i64 0, .int .i64 0, .int .i64 0, .int .i64 0, .int .i64 0, .int .i64 0, .int .i64 0] 38]) (l2 := [blk g306 #[.int .i64 a12, .int .i64 a13] 3, blk g311 #[.int .i64 24, .int .i64 a14, .int .i64 t147] 3]) 7 (.int .i64 0)
        have HS_ : Aside0 (Sep (fps []) w [blk g16 #[.int .i64 a12, .int .i64 a13, .int .i64 a14, .int .i64 a15] 32, blk g19 #[.int .i64 0, .int .i64 0, .int .i64 0, .int .i64 0, .int .i64 0, .int .i64 0, .int .i64 0, .int .i64 0] 38, blk g303 #[.int .i64 t173, .int .i64 (wrap64 (a13 - 8)), .int .i64 0, .int .i64 0, .int .i64 0, .int .i64 0, .int .i64 0, .int .i64 0] 38, blk g306 #[.int .i64 a12, .int .i64 a13] 3, blk g311 #[.int .i64 24, .int .i64 a14, .int .i64 t147] 3] w316) := ⟨by rw [hst]; exact hq7⟩
        clear hq0 hq1 hq2 hq3 hq4 hq5 hq6 hq7
        clear HS hst
        have HS := HS_
        clear HS_
        refine hK.out _ _ (⟨blk_cellv (HS.out.at0) 2 rfl, blk_cellv (HS.out.at0) 0 rfl, blk_cellv (HS.out.at0) 1 rfl⟩) (fun hHeld => ?_)
        clear hK K
        refine done_ (by kernel_rfl) ?_
        go_wp2_with fail
        go_meet
        case rel => exact ⟨g306, g311, g303, (by first | rfl | (simp [IntKind.wrap_u32]; done)), ⟨(((((HS.out).front 2 (by simp)).front 4 (by simp)).front 4 (by simp)).front 4 (by simp)).front 4 (by simp)⟩⟩
    case rest =>
      clear HS
      obtain ⟨g73, g150, g176, rfl, HS⟩ := hcut
      obtain ⟨w196, rfl⟩ : ∃ x : World, x = wc := ⟨_, rfl⟩
      have hc333 : w196.cell? ⟨g176, 1, none⟩ = some (.int .i64 (wrap64 (a13 - 8))) := blk_cellv (HS.out.at4) 1 rfl
      have hc334 : w196.cell? ⟨g176, 2, none⟩ = some (.int .i64 0) := blk_cellv (HS.out.at4) 2 rfl
      have hz335 : w196.frozen? ⟨g176, 2, none⟩ = false := blk_fz (HS.out.at4) 2
      go_wp2_with (first | ((with_reducible refine gate_store (t := 3) (p := 29) rfl ?_); refine store_event (w1 := (World.setCell w196 ⟨g176, 2, none⟩ (.int .i64 (wrap64 ((wrap64 (a13 - 8)) + 1))))) rfl (t := 3) (p := 29) rfl rfl ?hr ?_; (case hr => first | (go_simp; done) | (go_simp; rfl)); intro w336 hst; clear hc333 hc334 hz335; have hq0 : Sep (fps []) w [blk g16 #[.int .i64 a12, .int .i64 a13, .int .i64 a14, .int .i64 a15] 32, blk g19 #[.int .i64 0, .int .i64 0, .int .i64 0, .int .i64 0, .int .i64 0, .int .i64 0, .int .i64 0, .int .i64 0] 38, blk g73 #[.int .i64 a12, .int .i64 a13] 3, blk g150 #[.int .i64 24, .int .i64 a14, .int .i64 t147] 3, blk g176 #[.int .i64 t173, .int .i64 (wrap64 (a13 - 8)), .int .i64 (wrap64 ((wrap64 (a13 - 8)) + 1)), .int .i64 0, .int .i64 0, .int .i64 0, .int .i64 0, .int .i64 0] 38] (World.setCell w196 ⟨g176, 2, none⟩ (.int .i64 (wrap64 ((wrap64 (a13 - 8)) + 1)))) := (HS.out).set1 (l1 := [blk g16 #[.int .i64 a12, .int .i64 a13, .int .i64 a14, .int .i64 a15] 32, blk g19 #[.int .i64 0, .int .i64 0, .int .i64 0, .int .i64 0, .int .i64 0, .int .i64 0, .int .i64 0, .int .i64 0] 38, blk g73 #[.int .i64 a12, .int .i64 a13] 3, blk g150 #[.int .i64 24, .int .i64 a14, .int .i64 t147] 3]) (l2 := []) 2 (.int .i64 (wrap64 ((wrap64 (a13 - 8)) + 1))); have HS_ : Aside0 (Sep (fps []) w [blk g16 #[.int .i64 a12, .int .i64 a13, .int .i64 a14, .int .i64 a15] 32, blk g19 #[.int .i64 0, .int .i64 0, .int .i64 0, .int .i64 0, .int .i64 0, .int .i64 0, .int .i64 0, .int .i64 0] 38, blk g73 #[.int .i64 a12, .int .i64 a13] 3, blk g150 #[.int .i64 24, .int .i64 a14, .int .i64 t147] 3, blk g176 #[.int .i64 t173, .int .i64 (wrap64 (a13 - 8)), .int .i64 (wrap64 ((wrap64 (a13 - 8)) + 1)), .int .i64 0, .int .i64 0, .int .i64 0, .int .i64 0, .int .i64 0] 38] w336) := ⟨by rw [hst]; exact hq0⟩; clear hq0; clear HS hst; have HS := HS_; clear HS_; have hc337 : w336.cell? ⟨g176, 1, none⟩ = some (.int .i64 (wrap64 (a13 - 8))) := blk_cellv (HS.out.at4) 1 rfl; have hc338 : w336.cell? ⟨g16, 1, none⟩ = some (.int .i64 a13) := blk_cellv (HS.out.at0) 1 rfl) | ((with_reducible refine gate_dst (N := 35) rfl ?_); refine slice_on (n := 2) ?hg (N := 35) ?hd (cs := #[.int .i64 (wrap64 (a13 - 8)), .int .i64 (wrap64 (a13 - 1))]) (t := 3) ?hr ?_; (case hd => rfl); (case hg => rfl); (case hr => first | (go_simp; done) | (go_simp; rfl)); intro g339 hg w340 hbox hb; clear hc337 hc338; have HS_ : Aside0 (Sep (fps []) w [blk g16 #[.int .i64 a12, .int .i64 a13, .int .i64 a14, .int .i64 a15] 32, blk g19 #[.int .i64 0, .int .i64 0, .int .i64 0, .int .i64 0, .int .i64 0, .int .i64 0, .int .i64 0, .int .i64 0] 38, blk g73 #[.int .i64 a12, .int .i64 a13] 3, blk g150 #[.int .i64 24, .int .i64 a14, .int .i64 t147] 3, blk g176 #[.int .i64 t173, .int .i64 (wrap64 (a13 - 8)), .int .i64 (wrap64 ((wrap64 (a13 - 8)) + 1)), .int .i64 0, .int .i64 0, .int .i64 0, .int .i64 0, .int .i64 0] 38, blk g339 #[.int .i64 (wrap64 (a13 - 8)), .int .i64 (wrap64 (a13 - 1))] 3] w340) := ⟨HS.out.box hg hbox hb⟩; clear HS hg hbox hb; have HS := HS_; clear HS_))
      obtain ⟨t342, HA343, H⟩ := bind_some H
      refine (ratio_Mul.calls _ [wrap64 (a13 - 8), wrap64 (a13 - 1)] (some ⟨g339, 0, none⟩) 2 t342 _ ⟨C_of_blk (xs := [wrap64 (a13 - 8), wrap64 (a13 - 1)]) (HS.out.at5) (by simp)⟩ ⟨HS.out.begin (l := []) (rest := [blk g16 #[.int .i64 a12, .int .i64 a13, .int .i64 a14, .int .i64 a15] 32, blk g19 #[.int .i64 0, .int .i64 0, .int .i64 0, .int .i64 0, .int .i64 0, .int .i64 0, .int .i64 0, .int .i64 0] 38, blk g73 #[.int .i64 a12, .int .i64 a13] 3, blk g150 #[.int .i64 24, .int .i64 a14, .int .i64 t147] 3, blk g176 #[.int .i64 t173, .int .i64 (wrap64 (a13 - 8)), .int .i64 (wrap64 ((wrap64 (a13 - 8)) + 1)), .int .i64 0, .int .i64 0, .int .i64 0, .int .i64 0, .int .i64 0] 38, blk g339 #[.int .i64 (wrap64 (a13 - 8)), .int .i64 (wrap64 (a13 - 1))] 3])⟩ HA343).mono ?_
      rintro e_ w344 ⟨rfl, hS⟩
      have HS_ : Aside0 (Sep (fps []) w [blk g16 #[.int .i64 a12, .int .i64 a13, .int .i64 a14, .int .i64 a15] 32, blk g19 #[.int .i64 0, .int .i64 0, .int .i64 0, .int .i64 0, .int .i64 0, .int .i64 0, .int .i64 0, .int .i64 0] 38, blk g73 #[.int .i64 a12, .int .i64 a13] 3, blk g150 #[.int .i64 24, .int .i64 a14, .int .i64 t147] 3, blk g176 #[.int .i64 t173, .int .i64 (wrap64 (a13 - 8)), .int .i64 (wrap64 ((wrap64 (a13 - 8)) + 1)), .int .i64 0, .int .i64 0, .int .i64 0, .int .i64 0, .int .i64 0] 38, blk g339 #[.int .i64 (wrap64 (a13 - 8)), .int .i64 (wrap64 (a13 - 1))] 3] w344) := ⟨HS.out.call (l := []) (rest := [blk g16 #[.int .i64 a12, .int .i64 a13, .int .i64 a14, .int .i64 a15] 32, blk g19 #[.int .i64 0, .int .i64 0, .int .i64 0, .int .i64 0, .int .i64 0, .int .i64 0, .int .i64 0, .int .i64 0] 38, blk g73 #[.int .i64 a12, .int .i64 a13] 3, blk g150 #[.int .i64 24, .int .i64 a14, .int .i64 t147] 3, blk g176 #[.int .i64 t173, .int .i64 (wrap64 (a13 - 8)), .int .i64 (wrap64 ((wrap64 (a13 - 8)) + 1)), .int .i64 0, .int .i64 0, .int .i64 0, .int .i64 0, .int .i64 0] 38, blk g339 #[.int .i64 (wrap64 (a13 - 8)), .int .i64 (wrap64 (a13 - 1))] 3]) hS⟩
      clear HS hS
      have HS := HS_
      clear HS_
      have hc345 : w344.cell? ⟨g176, 3, none⟩ = some (.int .i64 0) := blk_cellv (HS.out.at4) 3 rfl
      have hz346 : w344.frozen? ⟨g176, 3, none⟩ = false := blk_fz (HS.out.at4) 3
      go_wp2_with (first | ((with_reducible refine gate_store (t := 3) (p := 37) rfl ?_); refine store_event (w1 := (World.setCell w344 ⟨g176, 3, none⟩ (.int .i64 t342))) rfl (t := 3) (p := 37) rfl rfl ?hr ?_; (case hr => first | (go_simp; done) | (go_simp; rfl)); intro w347 hst; clear hc345 hz346; have hq0 : Sep (fps []) w [blk g16 #[.int .i64 a12, .int .i64 a13, .int .i64 a14, .int .i64 a15] 32, blk g19 #[.int .i64 0, .int .i64 0, .int .i64 0, .int .i64 0, .int .i64 0, .int .i64 0, .int .i64 0, .int .i64 0] 38, blk g73 #[.int .i64 a12, .int .i64 a13] 3, blk g150 #[.int .i64 24, .int .i64 a14, .int .i64 t147] 3, blk g176 #[.int .i64 t173, .int .i64 (wrap64 (a13 - 8)), .int .i64 (wrap64 ((wrap64 (a13 - 8)) + 1)), .int .i64 t342, .int .i64 0, .int .i64 0, .int .i64 0, .int .i64 0] 38, blk g339 #[.int .i64 (wrap64 (a13 - 8)), .int .i64 (wrap64 (a13 - 1))] 3] (World.setCell w344 ⟨g176, 3, none⟩ (.int .i64 t342)) := (HS.out).set1 (l1 := [blk g16 #[.int .i64 a12, .int .i64 a13, .int .i64 a14, .int .i64 a15] 32, blk g19 #[.int .i64 0, .int .i64 0, .int .i64 0, .int .i64 0, .int .i64 0, .int .i64 0, .int .i64 0, .int .i64 0] 38, blk g73 #[.int .i64 a12, .int .i64 a13] 3, blk g150 #[.int .i64 24, .int .i64 a14, .int .i64 t147] 3]) (l2 := [blk g339 #[.int .i64 (wrap64 (a13 - 8)), .int .i64 (wrap64 (a13 - 1))] 3]) 3 (.int .i64 t342); have HS_ : Aside0 (Sep (fps []) w [blk g16 #[.int .i64 a12, .int .i64 a13, .int .i64 a14, .int .i64 a15] 32, blk g19 #[.int .i64 0, .int .i64 0, .int .i64 0, .int .i64 0, .int .i64 0, .int .i64 0, .int .i64 0, .int .i64 0] 38, blk g73 #[.int .i64 a12, .int .i64 a13] 3, blk g150 #[.int .i64 24, .int .i64 a14, .int .i64 t147] 3, blk g176 #[.int .i64 t173, .int .i64 (wrap64 (a13 - 8)), .int .i64 (wrap64 ((wrap64 (a13 - 8)) + 1)), .int .i64 t342, .int .i64 0, .int .i64 0, .int .i64 0, .int .i64 0] 38, blk g339 #[.int .i64 (wrap64 (a13 - 8)), .int .i64 (wrap64 (a13 - 1))] 3] w347) := ⟨by rw [hst]; exact hq0⟩; clear hq0; clear HS hst; have HS := HS_; clear HS_; have hc348 : w347.cell? ⟨g16, 0, none⟩ = some (.int .i64 a12) := blk_cellv (HS.out.at0) 0 rfl; have hc349 : w347.cell? ⟨g16, 1, none⟩ = some (.int .i64 a13) := blk_cellv (HS.out.at0) 1 rfl) | ((with_reducible refine gate_dst (N := 43) rfl ?_); refine slice_on (n := 2) ?hg (N := 43) ?hd (cs := #[.int .i64 a12, .int .i64 (wrap64 (a13 + 1))]) (t := 3) ?hr ?_; (case hd => rfl); (case hg => rfl); (case hr => first | (go_simp; done) | (go_simp; rfl)); intro g350 hg w351 hbox hb; clear hc348 hc349; have HS_ : Aside0 (Sep (fps []) w [blk g16 #[.int .i64 a12, .int .i64 a13, .int .i64 a14, .int .i64 a15] 32, blk g19 #[.int .i64 0, .int .i64 0, .int .i64 0, .int .i64 0, .int .i64 0, .int .i64 0, .int .i64 0, .int .i64 0] 38, blk g73 #[.int .i64 a12, .int .i64 a13] 3, blk g150 #[.int .i64 24, .int .i64 a14, .int .i64 t147] 3, blk g176 #[.int .i64 t173, .int .i64 (wrap64 (a13 - 8)), .int .i64 (wrap64 ((wrap64 (a13 - 8)) + 1)), .int .i64 t342, .int .i64 0, .int .i64 0, .int .i64 0, .int .i64 0] 38, blk g339 #[.int .i64 (wrap64 (a13 - 8)), .int .i64 (wrap64 (a13 - 1))] 3, blk g350 #[.int .i64 a12, .int .i64 (wrap64 (a13 + 1))] 3] w351) := ⟨HS.out.box hg hbox hb⟩; clear HS hg hbox hb; have HS := HS_; clear HS_))
      obtain ⟨t353, HA354, H⟩ := bind_some H
      refine (ratio_Mul.calls _ [a12, wrap64 (a13 + 1)] (some ⟨g350, 0, none⟩) 2 t353 _ ⟨C_of_blk (xs := [a12, wrap64 (a13 + 1)]) (HS.out.at6) (by simp)⟩ ⟨HS.out.begin (l := []) (rest := [blk g16 #[.int .i64 a12, .int .i64 a13, .int .i64 a14, .int .i64 a15] 32, blk g19 #[.int .i64 0, .int .i64 0, .int .i64 0, .int .i64 0, .int .i64 0, .int .i64 0, .int .i64 0, .int .i64 0] 38, blk g73 #[.int .i64 a12, .int .i64 a13] 3, blk g150 #[.int .i64 24, .int .i64 a14, .int .i64 t147] 3, blk g176 #[.int .i64 t173, .int .i64 (wrap64 (a13 - 8)), .int .i64 (wrap64 ((wrap64 (a13 - 8)) + 1)), .int .i64 t342, .int .i64 0, .int .i64 0, .int .i64 0, .int .i64 0] 38, blk g339 #[.int .i64 (wrap64 (a13 - 8)), .int .i64 (wrap64 (a13 - 1))] 3, blk g350 #[.int .i64 a12, .int .i64 (wrap64 (a13 + 1))] 3])⟩ HA354).mono ?_
      rintro e_ w355 ⟨rfl, hS⟩
      have HS_ : Aside0 (Sep (fps []) w [blk g16 #[.int .i64 a12, .int .i64 a13, .int .i64 a14, .int .i64 a15] 32, blk g19 #[.int .i64 0, .int .i64 0, .int .i64 0, .int .i64 0, .int .i64 0, .int .i64 0, .int .i64 0, .int .i64 0] 38, blk g73 #[.int .i64 a12, .int .i64 a13] 3, blk g150 #[.int .i64 24, .int .i64 a14, .int .i64 t147] 3, blk g176 #[.int .i64 t173, .int .i64 (wrap64 (a13 - 8)), .int .i64 (wrap64 ((wrap64 (a13 - 8)) + 1)), .int .i64 t342, .int .i64 0, .int .i64 0, .int .i64 0, .int .i64 0] 38, blk g339 #[.int .i64 (wrap64 (a13 - 8)), .int .i64 (wrap64 (a13 - 1))] 3, blk g350 #[.int .i64 a12, .int .i64 (wrap64 (a13 + 1))] 3] w355) := ⟨HS.out.call (l := []) (rest := [blk g16 #[.int .i64 a12, .int .i64 a13, .int .i64 a14, .int .i64 a15] 32, blk g19 #[.int .i64 0, .int .i64 0, .int .i64 0, .int .i64 0, .int .i64 0, .int .i64 0, .int .i64 0, .int .i64 0] 38, blk g73 #[.int .i64 a12, .int .i64 a13] 3, blk g150 #[.int .i64 24, .int .i64 a14, .int .i64 t147] 3, blk g176 #[.int .i64 t173, .int .i64 (wrap64 (a13 - 8)), .int .i64 (wrap64 ((wrap64 (a13 - 8)) + 1)), .int .i64 t342, .int .i64 0, .int .i64 0, .int .i64 0, .int .i64 0] 38, blk g339 #[.int .i64 (wrap64 (a13 - 8)), .int .i64 (wrap64 (a13 - 1))] 3, blk g350 #[.int .i64 a12, .int .i64 (wrap64 (a13 + 1))] 3]) hS⟩
      clear HS hS
      have HS := HS_
      clear HS_
      have hc356 : w355.cell? ⟨g176, 5, none⟩ = some (.int .i64 0) := blk_cellv (HS.out.at4) 5 rfl
      have hz357 : w355.frozen? ⟨g176, 5, none⟩ = false := blk_fz (HS.out.at4) 5
      go_wp2_with (first | ((with_reducible refine gate_store (t := 3) (p := 45) rfl ?_); refine store_event (w1 := (World.setCell w355 ⟨g176, 5, none⟩ (.int .i64 t353))) rfl (t := 3) (p := 45) rfl rfl ?hr ?_; (case hr => first | (go_simp; done) | (go_simp; rfl)); intro w358 hst; clear hc356 hz357; have hq0 : Sep (fps []) w [blk g16 #[.int .i64 a12, .int .i64 a13, .int .i64 a14, .int .i64 a15] 32, blk g19 #[.int .i64 0, .int .i64 0, .int .i64 0, .int .i64 0, .int .i64 0, .int .i64 0, .int .i64 0, .int .i64 0] 38, blk g73 #[.int .i64 a12, .int .i64 a13] 3, blk g150 #[.int .i64 24, .int .i64 a14, .int .i64 t147] 3, blk g176 #[.int .i64 t173, .int .i64 (wrap64 (a13 - 8)), .int .i64 (wrap64 ((wrap64 (a13 - 8)) + 1)), .int .i64 t342, .int .i64 0, .int .i64 t353, .int .i64 0, .int .i64 0] 38, blk g339 #[.int .i64 (wrap64 (a13 - 8)), .int .i64 (wrap64 (a13 - 1))] 3, blk g350 #[.int .i64 a12, .int .i64 (wrap64 (a13 + 1))] 3] (World.setCell w355 ⟨g176, 5, none⟩ (.int .i64 t353)) := (HS.out).set1 (l1 := [blk g16 #[.int .i64 a12, .int .i64 a13, .int .i64 a14, .int .i64 a15] 32, blk g19 #[.int .i64 0, .int .i64 0, .int .i64 0, .int .i64 0, .int .i64 0, .int .i64 0, .int .i64 0, .int .i64 0] 38, blk g73 #[.int .i64 a12, .int .i64 a13] 3, blk g150 #[.int .i64 24, .int .i64 a14, .int .i64 t147] 3]) (l2 := [blk g339 #[.int .i64 (wrap64 (a13 - 8)), .int .i64 (wrap64 (a13 - 1))] 3, blk g350 #[.int .i64 a12, .int .i64 (wrap64 (a13 + 1))] 3]) 5 (.int .i64 t353); have HS_ : Aside0 (Sep (fps []) w [blk g16 #[.int .i64 a12, .int .i64 a13, .int .i64 a14, .int .i64 a15] 32, blk g19 #[.int .i64 0, .int .i64 0, .int .i64 0, .int .i64 0, .int .i64 0, .int .i64 0, .int .i64 0, .int .i64 0] 38, blk g73 #[.int .i64 a12, .int .i64 a13] 3, blk g150 #[.int .i64 24, .int .i64 a14, .int .i64 t147] 3, blk g176 #[.int .i64 t173, .int .i64 (wrap64 (a13 - 8)), .int .i64 (wrap64 ((wrap64 (a13 - 8)) + 1)), .int .i64 t342, .int .i64 0, .int .i64 t353, .int .i64 0, .int .i64 0] 38, blk g339 #[.int .i64 (wrap64 (a13 - 8)), .int .i64 (wrap64 (a13 - 1))] 3, blk g350 #[.int .i64 a12, .int .i64 (wrap64 (a13 + 1))] 3] w358) := ⟨by rw [hst]; exact hq0⟩; clear hq0; clear HS hst; have HS := HS_; clear HS_; have hc359 : w358.cell? ⟨g176, 5, none⟩ = some (.int .i64 t353) := blk_cellv (HS.out.at4) 5 rfl) | ((with_reducible refine gate_dst (N := 48) rfl ?_); refine slice_on (n := 2) ?hg (N := 48) ?hd (cs := #[.int .i64 3, .int .i64 t353]) (t := 3) ?hr ?_; (case hd => rfl); (case hg => rfl); (case hr => first | (go_simp; done) | (go_simp; rfl)); intro g360 hg w361 hbox hb; clear hc359; have HS_ : Aside0 (Sep (fps []) w [blk g16 #[.int .i64 a12, .int .i64 a13, .int .i64 a14, .int .i64 a15] 32, blk g19 #[.int .i64 0, .int .i64 0, .int .i64 0, .int .i64 0, .int .i64 0, .int .i64 0, .int .i64 0, .int .i64 0] 38, blk g73 #[.int .i64 a12, .int .i64 a13] 3, blk g150 #[.int .i64 24, .int .i64 a14, .int .i64 t147] 3, blk g176 #[.int .i64 t173, .int .i64 (wrap64 (a13 - 8)), .int .i64 (wrap64 ((wrap64 (a13 - 8)) + 1)), .int .i64 t342, .int .i64 0, .int .i64 t353, .int .i64 0, .int .i64 0] 38, blk g339 #[.int .i64 (wrap64 (a13 - 8)), .int .i64 (wrap64 (a13 - 1))] 3, blk g350 #[.int .i64 a12, .int .i64 (wrap64 (a13 + 1))] 3, blk g360 #[.int .i64 3, .int .i64 t353] 3] w361) := ⟨HS.out.box hg hbox hb⟩; clear HS hg hbox hb; have HS := HS_; clear HS_))
      obtain ⟨t363, HA364, H⟩ := bind_some H
      refine (ratio_Mul.calls _ [3, t353] (some ⟨g360, 0, none⟩) 2 t363 _ ⟨C_of_blk (xs := [3, t353]) (HS.out.at7) (by simp)⟩ ⟨HS.out.begin (l := []) (rest := [blk g16 #[.int .i64 a12, .int .i64 a13, .int .i64 a14, .int .i64 a15] 32, blk g19 #[.int .i64 0, .int .i64 0, .int .i64 0, .int .i64 0, .int .i64 0, .int .i64 0, .int .i64 0, .int .i64 0] 38, blk g73 #[.int .i64 a12, .int .i64 a13] 3, blk g150 #[.int .i64 24, .int .i64 a14, .int .i64 t147] 3, blk g176 #[.int .i64 t173, .int .i64 (wrap64 (a13 - 8)), .int .i64 (wrap64 ((wrap64 (a13 - 8)) + 1)), .int .i64 t342, .int .i64 0, .int .i64 t353, .int .i64 0, .int .i64 0] 38, blk g339 #[.int .i64 (wrap64 (a13 - 8)), .int .i64 (wrap64 (a13 - 1))] 3, blk g350 #[.int .i64 a12, .int .i64 (wrap64 (a13 + 1))] 3, blk g360 #[.int .i64 3, .int .i64 t353] 3])⟩ HA364).mono ?_
      rintro e_ w365 ⟨rfl, hS⟩
      have HS_ : Aside0 (Sep (fps []) w [blk g16 #[.int .i64 a12, .int .i64 a13, .int .i64 a14, .int .i64 a15] 32, blk g19 #[.int .i64 0, .int .i64 0, .int .i64 0, .int .i64 0, .int .i64 0, .int .i64 0, .int .i64 0, .int .i64 0] 38, blk g73 #[.int .i64 a12, .int .i64 a13] 3, blk g150 #[.int .i64 24, .int .i64 a14, .int .i64 t147] 3, blk g176 #[.int .i64 t173, .int .i64 (wrap64 (a13 - 8)), .int .i64 (wrap64 ((wrap64 (a13 - 8)) + 1)), .int .i64 t342, .int .i64 0, .int .i64 t353, .int .i64 0, .int .i64 0] 38, blk g339 #[.int .i64 (wrap64 (a13 - 8)), .int .i64 (wrap64 (a13 - 1))] 3, blk g350 #[.int .i64 a12, .int .i64 (wrap64 (a13 + 1))] 3, blk g360 #[.int .i64 3, .int .i64 t353] 3] w365) := ⟨HS.out.call (l := []) (rest := [blk g16 #[.int .i64 a12, .int .i64 a13, .int .i64 a14, .int .i64 a15] 32, blk g19 #[.int .i64 0, .int .i64 0, .int .i64 0, .int .i64 0, .int .i64 0, .int .i64 0, .int .i64 0, .int .i64 0] 38, blk g73 #[.int .i64 a12, .int .i64 a13] 3, blk g150 #[.int .i64 24, .int .i64 a14, .int .i64 t147] 3, blk g176 #[.int .i64 t173, .int .i64 (wrap64 (a13 - 8)), .int .i64 (wrap64 ((wrap64 (a13 - 8)) + 1)), .int .i64 t342, .int .i64 0, .int .i64 t353, .int .i64 0, .int .i64 0] 38, blk g339 #[.int .i64 (wrap64 (a13 - 8)), .int .i64 (wrap64 (a13 - 1))] 3, blk g350 #[.int .i64 a12, .int .i64 (wrap64 (a13 + 1))] 3, blk g360 #[.int .i64 3, .int .i64 t353] 3]) hS⟩
      clear HS hS
      have HS := HS_
      clear HS_
      go_wp2_with (first | ((with_reducible refine gate_dst (N := 50) rfl ?_); refine slice_on (n := 2) ?hg (N := 50) ?hd (cs := #[.int .i64 t363, .int .i64 4]) (t := 3) ?hr ?_; (case hd => rfl); (case hg => rfl); (case hr => first | (go_simp; done) | (go_simp; rfl)); intro g366 hg w367 hbox hb; have HS_ : Aside0 (Sep (fps []) w [blk g16 #[.int .i64 a12, .int .i64 a13, .int .i64 a14, .int .i64 a15] 32, blk g19 #[.int .i64 0, .int .i64 0, .int .i64 0, .int .i64 0, .int .i64 0, .int .i64 0, .int .i64 0, .int .i64 0] 38, blk g73 #[.int .i64 a12, .int .i64 a13] 3, blk g150 #[.int .i64 24, .int .i64 a14, .int .i64 t147] 3, blk g176 #[.int .i64 t173, .int .i64 (wrap64 (a13 - 8)), .int .i64 (wrap64 ((wrap64 (a13 - 8)) + 1)), .int .i64 t342, .int .i64 0, .int .i64 t353, .int .i64 0, .int .i64 0] 38, blk g339 #[.int .i64 (wrap64 (a13 - 8)), .int .i64 (wrap64 (a13 - 1))] 3, blk g350 #[.int .i64 a12, .int .i64 (wrap64 (a13 + 1))] 3, blk g360 #[.int .i64 3, .int .i64 t353] 3, blk g366 #[.int .i64 t363, .int .i64 4] 3] w367) := ⟨HS.out.box hg hbox hb⟩; clear HS hg hbox hb; have HS := HS_; clear HS_))
      obtain ⟨t369, HA370, H⟩ := bind_some H
      refine (ratio_Add.calls _ [t363, 4] (some ⟨g366, 0, none⟩) 2 t369 _ ⟨C_of_blk (xs := [t363, 4]) (HS.out.at8) (by simp)⟩ ⟨HS.out.begin (l := []) (rest := [blk g16 #[.int .i64 a12, .int .i64 a13, .int .i64 a14, .int .i64 a15] 32, blk g19 #[.int .i64 0, .int .i64 0, .int .i64 0, .int .i64 0, .int .i64 0, .int .i64 0, .int .i64 0, .int .i64 0] 38, blk g73 #[.int .i64 a12, .int .i64 a13] 3, blk g150 #[.int .i64 24, .int .i64 a14, .int .i64 t147] 3, blk g176 #[.int .i64 t173, .int .i64 (wrap64 (a13 - 8)), .int .i64 (wrap64 ((wrap64 (a13 - 8)) + 1)), .int .i64 t342, .int .i64 0, .int .i64 t353, .int .i64 0, .int .i64 0] 38, blk g339 #[.int .i64 (wrap64 (a13 - 8)), .int .i64 (wrap64 (a13 - 1))] 3, blk g350 #[.int .i64 a12, .int .i64 (wrap64 (a13 + 1))] 3, blk g360 #[.int .i64 3, .int .i64 t353] 3, blk g366 #[.int .i64 t363, .int .i64 4] 3])⟩ HA370).mono ?_
      rintro e_ w371 ⟨rfl, hS⟩
      have HS_ : Aside0 (Sep (fps []) w [blk g16 #[.int .i64 a12, .int .i64 a13, .int .i64 a14, .int .i64 a15] 32, blk g19 #[.int .i64 0, .int .i64 0, .int .i64 0, .int .i64 0, .int .i64 0, .int .i64 0, .int .i64 0, .int .i64 0] 38, blk g73 #[.int .i64 a12, .int .i64 a13] 3, blk g150 #[.int .i64 24, .int .i64 a14, .int .i64 t147] 3, blk g176 #[.int .i64 t173, .int .i64 (wrap64 (a13 - 8)), .int .i64 (wrap64 ((wrap64 (a13 - 8)) + 1)), .int .i64 t342, .int .i64 0, .int .i64 t353, .int .i64 0, .int .i64 0] 38, blk g339 #[.int .i64 (wrap64 (a13 - 8)), .int .i64 (wrap64 (a13 - 1))] 3, blk g350 #[.int .i64 a12, .int .i64 (wrap64 (a13 + 1))] 3, blk g360 #[.int .i64 3, .int .i64 t353] 3, blk g366 #[.int .i64 t363, .int .i64 4] 3] w371) := ⟨HS.out.call (l := []) (rest := [blk g16 #[.int .i64 a12, .int .i64 a13, .int .i64 a14, .int .i64 a15] 32, blk g19 #[.int .i64 0, .int .i64 0, .int .i64 0, .int .i64 0, .int .i64 0, .int .i64 0, .int .i64 0, .int .i64 0] 38, blk g73 #[.int .i64 a12, .int .i64 a13] 3, blk g150 #[.int .i64 24, .int .i64 a14, .int .i64 t147] 3, blk g176 #[.int .i64 t173, .int .i64 (wrap64 (a13 - 8)), .int .i64 (wrap64 ((wrap64 (a13 - 8)) + 1)), .int .i64 t342, .int .i64 0, .int .i64 t353, .int .i64 0, .int .i64 0] 38, blk g339 #[.int .i64 (wrap64 (a13 - 8)), .int .i64 (wrap64 (a13 - 1))] 3, blk g350 #[.int .i64 a12, .int .i64 (wrap64 (a13 + 1))] 3, blk g360 #[.int .i64 3, .int .i64 t353] 3, blk g366 #[.int .i64 t363, .int .i64 4] 3]) hS⟩
      clear HS hS
      have HS := HS_
      clear HS_
      have hc372 : w371.cell? ⟨g176, 4, none⟩ = some (.int .i64 0) := blk_cellv (HS.out.at4) 4 rfl
      have hz373 : w371.frozen? ⟨g176, 4, none⟩ = false := blk_fz (HS.out.at4) 4
      go_wp2_with (first | ((with_reducible refine gate_store (t := 3) (p := 52) rfl ?_); refine store_event (w1 := (World.setCell w371 ⟨g176, 4, none⟩ (.int .i64 t369))) rfl (t := 3) (p := 52) rfl rfl ?hr ?_; (case hr => first | (go_simp; done) | (go_simp; rfl)); intro w374 hst; clear hc372 hz373; have hq0 : Sep (fps []) w [blk g16 #[.int .i64 a12, .int .i64 a13, .int .i64 a14, .int .i64 a15] 32, blk g19 #[.int .i64 0, .int .i64 0, .int .i64 0, .int .i64 0, .int .i64 0, .int .i64 0, .int .i64 0, .int .i64 0] 38, blk g73 #[.int .i64 a12, .int .i64 a13] 3, blk g150 #[.int .i64 24, .int .i64 a14, .int .i64 t147] 3, blk g176 #[.int .i64 t173, .int .i64 (wrap64 (a13 - 8)), .int .i64 (wrap64 ((wrap64 (a13 - 8)) + 1)), .int .i64 t342, .int .i64 t369, .int .i64 t353, .int .i64 0, .int .i64 0] 38, blk g339 #[.int .i64 (wrap64 (a13 - 8)), .int .i64 (wrap64 (a13 - 1))] 3, blk g350 #[.int .i64 a12, .int .i64 (wrap64 (a13 + 1))] 3, blk g360 #[.int .i64 3, .int .i64 t353] 3, blk g366 #[.int .i64 t363, .int .i64 4] 3] (World.setCell w371 ⟨g176, 4, none⟩ (.int .i64 t369)) := (HS.out).set1 (l1 := [blk g16 #[.int .i64 a12, .int .i64 a13, .int .i64 a14, .int .i64 a15] 32, blk g19 #[.int .i64 0, .int .i64 0, .int .i64 0, .int .i64 0, .int .i64 0, .int .i64 0, .int .i64 0, .int .i64 0] 38, blk g73 #[.int .i64 a12, .int .i64 a13] 3, blk g150 #[.int .i64 24, .int .i64 a14, .int .i64 t147] 3]) (l2 := [blk g339 #[.int .i64 (wrap64 (a13 - 8)), .int .i64 (wrap64 (a13 - 1))] 3, blk g350 #[.int .i64 a12, .int .i64 (wrap64 (a13 + 1))] 3, blk g360 #[.int .i64 3, .int .i64 t353] 3, blk g366 #[.int .i64 t363, .int .i64 4] 3]) 4 (.int .i64 t369); have HS_ : Aside0 (Sep (fps []) w [blk g16 #[.int .i64 a12, .int .i64 a13, .int .i64 a14, .int .i64 a15] 32, blk g19 #[.int .i64 0, .int .i64 0, .int .i64 0, .int .i64 0, .int .i64 0, .int .i64 0, .int .i64 0, .int .i64 0] 38, blk g73 #[.int .i64 a12, .int .i64 a13] 3, blk g150 #[.int .i64 24, .int .i64 a14, .int .i64 t147] 3, blk g176 #[.int .i64 t173, .int .i64 (wrap64 (a13 - 8)), .int .i64 (wrap64 ((wrap64 (a13 - 8)) + 1)), .int .i64 t342, .int .i64 t369, .int .i64 t353, .int .i64 0, .int .i64 0] 38, blk g339 #[.int .i64 (wrap64 (a13 - 8)), .int .i64 (wrap64 (a13 - 1))] 3, blk g350 #[.int .i64 a12, .int .i64 (wrap64 (a13 + 1))] 3, blk g360 #[.int .i64 3, .int .i64 t353] 3, blk g366 #[.int .i64 t363, .int .i64 4] 3] w374) := ⟨by rw [hst]; exact hq0⟩; clear hq0; clear HS hst; have HS := HS_; clear HS_))
      obtain ⟨t394, HA395, H⟩ := bind_some H
      obtain ⟨t400, HA401, H⟩ := bind_some H
      obtain ⟨t406, HA407, H⟩ := bind_some H
      obtain ⟨t412, HA413, H⟩ := bind_some H
      go_cut [] (fun wc => ∃ (g397 : Nat) (g403 : Nat) (g409 : Nat), Aside0 (Sep (fps []) w [blk g16 #[.int .i64 a12, .int .i64 a13, .int .i64 a14, .int .i64 a15] 32, blk g19 #[.int .i64 0, .int .i64 0, .int .i64 0, .int .i64 0, .int .i64 0, .int .i64 0, .int .i64 0, .int .i64 0] 38, blk g73 #[.int .i64 a12, .int .i64 a13] 3, blk g150 #[.int .i64 24, .int .i64 a14, .int .i64 t147] 3, blk g176 #[.int .i64 t173, .int .i64 (wrap64 (a13 - 8)), .int .i64 (wrap64 ((wrap64 (a13 - 8)) + 1)), .int .i64 t342, .int .i64 t369, .int .i64 t353, .int .i64 t412, .int .i64 0] 38, blk g339 #[.int .i64 (wrap64 (a13 - 8)), .int .i64 (wrap64 (a13 - 1))] 3, blk g350 #[.int .i64 a12, .int .i64 (wrap64 (a13 + 1))] 3, blk g360 #[.int .i64 3, .int .i64 t353] 3, blk g366 #[.int .i64 t363, .int .i64 4] 3, blk g397 #[.int .i64 2, .int .i64 t394] 3, blk g403 #[.int .i64 2, .int .i64 (wrap64 ((wrap64 (a13 - 8)) + 1))] 3, blk g409 #[.int .i64 t400, .int .i64 t406] 3] wc))
      case first =>
        go_wp2_with fail
        refine start_ (n := 15) (S := (fun w' => w'.cell? ⟨g176, 4, none⟩ = some (.int .i64 t369) ∧ w'.cell? ⟨g16, 3, none⟩ = some (.int .i64 a15) ∧ w'.cell? ⟨g176, 2, none⟩ = some (.int .i64 (wrap64 ((wrap64 (a13 - 8)) + 1))))) (ds := []) #[false, false, false, false, false, false, false, false, false, false, false, false, false, false, false] (by kernel_rfl) rfl rfl (⟨blk_cellv ((HS.out.drew).at4) 4 rfl, blk_cellv ((HS.out.drew).at0) 3 rfl, blk_cellv ((HS.out.drew).at4) 2 rfl⟩) (fun hHeld => ?_)
        have HS_ := Aside0.mk HS.out.drew
        clear HS
        generalize World.drew _ = w420 at HS_ hHeld ⊢
        have HS := HS_
        clear HS_
        refine pure_ (i := 0) (N := some 53) (v := ?_) (a' := ?_) #[true, false, false, false, false, false, false, false, false, false, false, false, false, false, false] rfl rfl (by kernel_rfl) (fun _ _ _ h => h) (Or.inl ⟨by rfl, ?_⟩) ?_ ?_
        rotate_left
        · intro w'
          go_simp
          with_reducible rfl
        rotate_left
        · simp only [Act.put, List.setIfInBounds_toArray, List.set_cons_zero, List.set_cons_succ, i64_w, i32_w]
          rfl
        refine pure_ (i := 2) (N := some 55) (v := ?_) (a' := ?_) #[true, false, true, false, false, false, false, false, false, false, false, false, false, false, false] rfl rfl (by kernel_rfl) (fun _ _ _ h => h) (Or.inl ⟨by rfl, ?_⟩) ?_ ?_
        rotate_left
        · intro w'
          go_simp
          with_reducible rfl
        rotate_left
        · simp only [Act.put, List.setIfInBounds_toArray, List.set_cons_zero, List.set_cons_succ, i64_w, i32_w]
          rfl
        refine pure_ (i := 7) (N := some 60) (v := ?_) (a' := ?_) #[true, false, true, false, false, false, false, true, false, false, false, false, false, false, false] rfl rfl (by kernel_rfl) (fun _ _ _ h => h) (Or.inl ⟨by rfl, ?_⟩) ?_ ?_
        rotate_left
        · intro w'
          go_simp
          with_reducible rfl
        rotate_left
        · simp only [Act.put, List.setIfInBounds_toArray, List.set_cons_zero, List.set_cons_succ, i64_w, i32_w]
          rfl
        refine take_ (i := 1) (N := some 54) (v := ?_) (a' := ?_) #[true, true, true, false, false, false, false, true, false, false, false, false, false, false, false] rfl rfl (by kernel_rfl) (fun _ _ _ h => h) (Or.inl ⟨by rfl, ?_⟩) hHeld ?_ ?_
        rotate_left
        · rintro w' hS'
          obtain ⟨s0, s1, s2⟩ := hS'
          go_simp
          with_reducible rfl
        rotate_left
        · simp only [Act.put, List.setIfInBounds_toArray, List.set_cons_zero, List.set_cons_succ, i64_w, i32_w]
          rfl
        refine take_ (i := 3) (N := some 56) (v := ?_) (a' := ?_) #[true, true, true, true, false, false, false, true, false, false, false, false, false, false, false] rfl rfl (by kernel_rfl) (fun _ _ _ h => h) (Or.inl ⟨by rfl, ?_⟩) hHeld ?_ ?_
        rotate_left
        · rintro w' hS'
          obtain ⟨s0, s1, s2⟩ := hS'
          go_simp
          with_reducible rfl
        rotate_left
        · simp only [Act.put, List.setIfInBounds_toArray, List.set_cons_zero, List.set_cons_succ, i64_w, i32_w]
          rfl
        refine take_ (i := 8) (N := some 61) (v := ?_) (a' := ?_) #[true, true, true, true, false, false, false, true, true, false, false, false, false, false, false] rfl rfl (by kernel_rfl) (fun _ _ _ h => h) (Or.inl ⟨by rfl, ?_⟩) hHeld ?_ ?_
        rotate_left
        · rintro w' hS'
          obtain ⟨s0, s1, s2⟩ := hS'
          go_simp
          with_reducible rfl
        rotate_left
        · simp only [Act.put, List.setIfInBounds_toArray, List.set_cons_zero, List.set_cons_succ, i64_w, i32_w]
          rfl
        refine two_ (i := 4) (j := 9) (Ni := some 57) (Nj := some 62) #[true, true, true, true, true, false, false, true, true, false, false, false, false, false, false] #[true, true, true, true, false, false, false, true, true, true, false, false, false, false, false] rfl rfl rfl rfl (by kernel_rfl) (by decide) (by decide) (fun K hK => ?_) (fun K hK => ?_)
        · refine goes_ Try.func45 (by kernel_rfl) rfl #[.int .i64 t369, .int .i64 a15] (by rfl) rfl rfl (by (try simp only [List.map_toArray, List.map_cons, List.map_nil]); first | done | rfl) ?_
          refine (ratio_Up.calls t369 a15 t394 _ ⟨HS.out.begin (l := []) (rest := [blk g16 #[.int .i64 a12, .int .i64 a13, .int .i64 a14, .int .i64 a15] 32, blk g19 #[.int .i64 0, .int .i64 0, .int .i64 0, .int .i64 0, .int .i64 0, .int .i64 0, .int .i64 0, .int .i64 0] 38, blk g73 #[.int .i64 a12, .int .i64 a13] 3, blk g150 #[.int .i64 24, .int .i64 a14, .int .i64 t147] 3, blk g176 #[.int .i64 t173, .int .i64 (wrap64 (a13 - 8)), .int .i64 (wrap64 ((wrap64 (a13 - 8)) + 1)), .int .i64 t342, .int .i64 t369, .int .i64 t353, .int .i64 0, .int .i64 0] 38, blk g339 #[.int .i64 (wrap64 (a13 - 8)), .int .i64 (wrap64 (a13 - 1))] 3, blk g350 #[.int .i64 a12, .int .i64 (wrap64 (a13 + 1))] 3, blk g360 #[.int .i64 3, .int .i64 t353] 3, blk g366 #[.int .i64 t363, .int .i64 4] 3])⟩ HA395).mono ?_
          rintro e_ w422 ⟨rfl, hS⟩
          have HS_ : Aside0 (Sep (fps []) w [blk g16 #[.int .i64 a12, .int .i64 a13, .int .i64 a14, .int .i64 a15] 32, blk g19 #[.int .i64 0, .int .i64 0, .int .i64 0, .int .i64 0, .int .i64 0, .int .i64 0, .int .i64 0, .int .i64 0] 38, blk g73 #[.int .i64 a12, .int .i64 a13] 3, blk g150 #[.int .i64 24, .int .i64 a14, .int .i64 t147] 3, blk g176 #[.int .i64 t173, .int .i64 (wrap64 (a13 - 8)), .int .i64 (wrap64 ((wrap64 (a13 - 8)) + 1)), .int .i64 t342, .int .i64 t369, .int .i64 t353, .int .i64 0, .int .i64 0] 38, blk g339 #[.int .i64 (wrap64 (a13 - 8)), .int .i64 (wrap64 (a13 - 1))] 3, blk g350 #[.int .i64 a12, .int .i64 (wrap64 (a13 + 1))] 3, blk g360 #[.int .i64 3, .int .i64 t353] 3, blk g366 #[.int .i64 t363, .int .i64 4] 3] w422) := ⟨HS.out.call (l := []) (rest := [blk g16 #[.int .i64 a12, .int .i64 a13, .int .i64 a14, .int .i64 a15] 32, blk g19 #[.int .i64 0, .int .i64 0, .int .i64 0, .int .i64 0, .int .i64 0, .int .i64 0, .int .i64 0, .int .i64 0] 38, blk g73 #[.int .i64 a12, .int .i64 a13] 3, blk g150 #[.int .i64 24, .int .i64 a14, .int .i64 t147] 3, blk g176 #[.int .i64 t173, .int .i64 (wrap64 (a13 - 8)), .int .i64 (wrap64 ((wrap64 (a13 - 8)) + 1)), .int .i64 t342, .int .i64 t369, .int .i64 t353, .int .i64 0, .int .i64 0] 38, blk g339 #[.int .i64 (wrap64 (a13 - 8)), .int .i64 (wrap64 (a13 - 1))] 3, blk g350 #[.int .i64 a12, .int .i64 (wrap64 (a13 + 1))] 3, blk g360 #[.int .i64 3, .int .i64 t353] 3, blk g366 #[.int .i64 t363, .int .i64 4] 3]) hS⟩
          clear HS hS
          have HS := HS_
          clear HS_
          refine ⟨_, rfl, ?_⟩
          refine hK.out _ _ (⟨blk_cellv (HS.out.at4) 4 rfl, blk_cellv (HS.out.at0) 3 rfl, blk_cellv (HS.out.at4) 2 rfl⟩) (fun hHeld => ?_)
          clear hK K
          refine norm_ (a' := ?_) ?_ ?_
          rotate_left
          · show Act.put _ (some 57) _ = _
            simp only [Act.put, List.setIfInBounds_toArray, List.set_cons_zero, List.set_cons_succ, i64_w, i32_w]
            rfl
          refine two_ (i := 5) (j := 9) (Ni := some 58) (Nj := some 62) #[true, true, true, true, true, true, false, true, true, false, false, false, false, false, false] #[true, true, true, true, true, false, false, true, true, true, false, false, false, false, false] rfl rfl rfl rfl (by kernel_rfl) (by decide) (by decide) (fun K hK => ?_) (fun K hK => ?_)
          · refine slice_step (n := 2) (by rfl) (N := 58) rfl (cs := #[.int .i64 2, .int .i64 t394]) (t := 3) ?hr ?_
            case hr => first | (go_simp; done) | (go_simp; rfl)
            intro g423 hg w424 hbox hb
            have HS_ : Aside0 (Sep (fps []) w [blk g16 #[.int .i64 a12, .int .i64 a13, .int .i64 a14, .int .i64 a15] 32, blk g19 #[.int .i64 0, .int .i64 0, .int .i64 0, .int .i64 0, .int .i64 0, .int .i64 0, .int .i64 0, .int .i64 0] 38, blk g73 #[.int .i64 a12, .int .i64 a13] 3, blk g150 #[.int .i64 24, .int .i64 a14, .int .i64 t147] 3, blk g176 #[.int .i64 t173, .int .i64 (wrap64 (a13 - 8)), .int .i64 (wrap64 ((wrap64 (a13 - 8)) + 1)), .int .i64 t342, .int .i64 t369, .int .i64 t353, .int .i64 0, .int .i64 0] 38, blk g339 #[.int .i64 (wrap64 (a13 - 8)), .int .i64 (wrap64 (a13 - 1))] 3, blk g350 #[.int .i64 a12, .int .i64 (wrap64 (a13 + 1))] 3, blk g360 #[.int .i64 3, .int .i64 t353] 3, blk g366 #[.int .i64 t363, .int .i64 4] 3, blk g423 #[.int .i64 2, .int .i64 t394] 3] w424) := ⟨HS.out.box hg hbox hb⟩
            clear HS hg hbox hb
            have HS := HS_
            clear HS_
            refine hK.out _ _ (⟨blk_cellv (HS.out.at4) 4 rfl, blk_cellv (HS.out.at0) 3 rfl, blk_cellv (HS.out.at4) 2 rfl⟩) (fun hHeld => ?_)
            clear hK K
            refine norm_ (a' := ?_) ?_ ?_
            rotate_left
            · show Act.put _ (some 58) _ = _
              simp only [Act.put, List.setIfInBounds_toArray, List.set_cons_zero, List.set_cons_succ, i64_w, i32_w]
              rfl
            refine two_ (i := 6) (j := 9) (Ni := some 59) (Nj := some 62) #[true, true, true, true, true, true, true, true, true, false, false, false, false, false, false] #[true, true, true, true, true, true, false, true, true, true, false, false, false, false, false] rfl rfl rfl rfl (by kernel_rfl) (by decide) (by decide) (fun K hK => ?_) (fun K hK => ?_)
            · refine goes_ Try.func42 (by kernel_rfl) rfl #[.slice (some ⟨g423, 0, none⟩) 2 2] (by rfl) rfl rfl (by (try simp only [List.map_toArray, List.map_cons, List.map_nil]); first | done | rfl) ?_
              refine (ratio_Mul.calls _ [2, t394] (some ⟨g423, 0, none⟩) 2 t400 _ ⟨C_of_blk (xs := [2, t394]) (HS.out.nth 9 rfl) (by simp)⟩ ⟨HS.out.begin (l := []) (rest := [blk g16 #[.int .i64 a12, .int .i64 a13, .int .i64 a14, .int .i64 a15] 32, blk g19 #[.int .i64 0, .int .i64 0, .int .i64 0, .int .i64 0, .int .i64 0, .int .i64 0, .int .i64 0, .int .i64 0] 38, blk g73 #[.int .i64 a12, .int .i64 a13] 3, blk g150 #[.int .i64 24, .int .i64 a14, .int .i64 t147] 3, blk g176 #[.int .i64 t173, .int .i64 (wrap64 (a13 - 8)), .int .i64 (wrap64 ((wrap64 (a13 - 8)) + 1)), .int .i64 t342, .int .i64 t369, .int .i64 t353, .int .i64 0, .int .i64 0] 38, blk g339 #[.int .i64 (wrap64 (a13 - 8)), .int .i64 (wrap64 (a13 - 1))] 3, blk g350 #[.int .i64 a12, .int .i64 (wrap64 (a13 + 1))] 3, blk g360 #[.int .i64 3, .int .i64 t353] 3, blk g366 #[.int .i64 t363, .int .i64 4] 3, blk g423 #[.int .i64 2, .int .i64 t394] 3])⟩ HA401).mono ?_
              rintro e_ w427 ⟨rfl, hS⟩
              have HS_ : Aside0 (Sep (fps []) w [blk g16 #[.int .i64 a12, .int .i64 a13, .int .i64 a14, .int .i64 a15] 32, blk g19 #[.int .i64 0, .int .i64 0, .int .i64 0, .int .i64 0, .int .i64 0, .int .i64 0, .int .i64 0, .int .i64 0] 38, blk g73 #[.int .i64 a12, .int .i64 a13] 3, blk g150 #[.int .i64 24, .int .i64 a14, .int .i64 t147] 3, blk g176 #[.int .i64 t173, .int .i64 (wrap64 (a13 - 8)), .int .i64 (wrap64 ((wrap64 (a13 - 8)) + 1)), .int .i64 t342, .int .i64 t369, .int .i64 t353, .int .i64 0, .int .i64 0] 38, blk g339 #[.int .i64 (wrap64 (a13 - 8)), .int .i64 (wrap64 (a13 - 1))] 3, blk g350 #[.int .i64 a12, .int .i64 (wrap64 (a13 + 1))] 3, blk g360 #[.int .i64 3, .int .i64 t353] 3, blk g366 #[.int .i64 t363, .int .i64 4] 3, blk g423 #[.int .i64 2, .int .i64 t394] 3] w427) := ⟨HS.out.call (l := []) (rest := [blk g16 #[.int .i64 a12, .int .i64 a13, .int .i64 a14, .int .i64 a15] 32, blk g19 #[.int .i64 0, .int .i64 0, .int .i64 0, .int .i64 0, .int .i64 0, .int .i64 0, .int .i64 0, .int .i64 0] 38, blk g73 #[.int .i64 a12, .int .i64 a13] 3, blk g150 #[.int .i64 24, .int .i64 a14, .int .i64 t147] 3, blk g176 #[.int .i64 t173, .int .i64 (wrap64 (a13 - 8)), .int .i64 (wrap64 ((wrap64 (a13 - 8)) + 1)), .int .i64 t342, .int .i64 t369, .int .i64 t353, .int .i64 0, .int .i64 0] 38, blk g339 #[.int .i64 (wrap64 (a13 - 8)), .int .i64 (wrap64 (a13 - 1))] 3, blk g350 #[.int .i64 a12, .int .i64 (wrap64 (a13 + 1))] 3, blk g360 #[.int .i64 3, .int .i64 t353] 3, blk g366 #[.int .i64 t363, .int .i64 4] 3, blk g423 #[.int .i64 2, .int .i64 t394] 3]) hS⟩
              clear HS hS
              have HS := HS_
              clear HS_
              refine ⟨_, rfl, ?_⟩
              refine hK.out _ _ (⟨blk_cellv (HS.out.at4) 4 rfl, blk_cellv (HS.out.at0) 3 rfl, blk_cellv (HS.out.at4) 2 rfl⟩) (fun hHeld => ?_)
              clear hK K
              refine norm_ (a' := ?_) ?_ ?_
              rotate_left
              · show Act.put _ (some 59) _ = _
                simp only [Act.put, List.setIfInBounds_toArray, List.set_cons_zero, List.set_cons_succ, i64_w, i32_w]
                rfl
              refine one_ (i := 9) (N := some 62) #[true, true, true, true, true, true, true, true, true, true, false, false, false, false, false] rfl rfl (by kernel_rfl) (by decide) (fun K hK => ?_)
              refine slice_step (n := 2) (by rfl) (N := 62) rfl (cs := #[.int .i64 2, .int .i64 (wrap64 ((wrap64 (a13 - 8)) + 1))]) (t := 3) ?hr ?_
              case hr => first | (go_simp; done) | (go_simp; rfl)
              intro g428 hg w429 hbox hb
              have HS_ : Aside0 (Sep (fps []) w [blk g16 #[.int .i64 a12, .int .i64 a13, .int .i64 a14, .int .i64 a15] 32, blk g19 #[.int .i64 0, .int .i64 0, .int .i64 0, .int .i64 0, .int .i64 0, .int .i64 0, .int .i64 0, .int .i64 0] 38, blk g73 #[.int .i64 a12, .int .i64 a13] 3, blk g150 #[.int .i64 24, .int .i64 a14, .int .i64 t147] 3, blk g176 #[.int .i64 t173, .int .i64 (wrap64 (a13 - 8)), .int .i64 (wrap64 ((wrap64 (a13 - 8)) + 1)), .int .i64 t342, .int .i64 t369, .int .i64 t353, .int .i64 0, .int .i64 0] 38, blk g339 #[.int .i64 (wrap64 (a13 - 8)), .int .i64 (wrap64 (a13 - 1))] 3, blk g350 #[.int .i64 a12, .int .i64 (wrap64 (a13 + 1))] 3, blk g360 #[.int .i64 3, .int .i64 t353] 3, blk g366 #[.int .i64 t363, .int .i64 4] 3, blk g423 #[.int .i64 2, .int .i64 t394] 3, blk g428 #[.int .i64 2, .int .i64 (wrap64 ((wrap64 (a13 - 8)) + 1))] 3] w429) := ⟨HS.out.box hg hbox hb⟩
              clear HS hg hbox hb
              have HS := HS_
              clear HS_
              refine hK.out _ _ (⟨blk_cellv (HS.out.at4) 4 rfl, blk_cellv (HS.out.at0) 3 rfl, blk_cellv (HS.out.at4) 2 rfl⟩) (fun hHeld => ?_)
              clear hK K
              refine norm_ (a' := ?_) ?_ ?_
              rotate_left
              · show Act.put _ (some 62) _ = _
                simp only [Act.put, List.setIfInBounds_toArray, List.set_cons_zero, List.set_cons_succ, i64_w, i32_w]
                rfl
              refine one_ (i := 10) (N := some 63) #[true, true, true, true, true, true, true, true, true, true, true, false, false, false, false] rfl rfl (by kernel_rfl) (by decide) (fun K hK => ?_)
              refine goes_ Try.func42 (by kernel_rfl) rfl #[.slice (some ⟨g428, 0, none⟩) 2 2] (by rfl) rfl rfl (by (try simp only [List.map_toArray, List.map_cons, List.map_nil]); first | done | rfl) ?_
              refine (ratio_Mul.calls _ [2, wrap64 ((wrap64 (a13 - 8)) + 1)] (some ⟨g428, 0, none⟩) 2 t406 _ ⟨C_of_blk (xs := [2, wrap64 ((wrap64 (a13 - 8)) + 1)]) (HS.out.nth 10 rfl) (by simp)⟩ ⟨HS.out.begin (l := []) (rest := [blk g16 #[.int .i64 a12, .int .i64 a13, .int .i64 a14, .int .i64 a15] 32, blk g19 #[.int .i64 0, .int .i64 0, .int .i64 0, .int .i64 0, .int .i64 0, .int .i64 0, .int .i64 0, .int .i64 0] 38, blk g73 #[.int .i64 a12, .int .i64 a13] 3, blk g150 #[.int .i64 24, .int .i64 a14, .int .i64 t147] 3, blk g176 #[.int .i64 t173, .int .i64 (wrap64 (a13 - 8)), .int .i64 (wrap64 ((wrap64 (a13 - 8)) + 1)), .int .i64 t342, .int .i64 t369, .int .i64 t353, .int .i64 0, .int .i64 0] 38, blk g339 #[.int .i64 (wrap64 (a13 - 8)), .int .i64 (wrap64 (a13 - 1))] 3, blk g350 #[.int .i64 a12, .int .i64 (wrap64 (a13 + 1))] 3, blk g360 #[.int .i64 3, .int .i64 t353] 3, blk g366 #[.int .i64 t363, .int .i64 4] 3, blk g423 #[.int .i64 2, .int .i64 t394] 3, blk g428 #[.int .i64 2, .int .i64 (wrap64 ((wrap64 (a13 - 8)) + 1))] 3])⟩ HA407).mono ?_
              rintro e_ w432 ⟨rfl, hS⟩
              have HS_ : Aside0 (Sep (fps []) w [blk g16 #[.int .i64 a12, .int .i64 a13, .int .i64 a14, .int .i64 a15] 32, blk g19 #[.int .i64 0, .int .i64 0, .int .i64 0, .int .i64 0, .int .i64 0, .int .i64 0, .int .i64 0, .int .i64 0] 38, blk g73 #[.int .i64 a12, .int .i64 a13] 3, blk g150 #[.int .i64 24, .int .i64 a14, .int .i64 t147] 3, blk g176 #[.int .i64 t173, .int .i64 (wrap64 (a13 - 8)), .int .i64 (wrap64 ((wrap64 (a13 - 8)) + 1)), .int .i64 t342, .int .i64 t369, .int .i64 t353, .int .i64 0, .int .i64 0] 38, blk g339 #[.int .i64 (wrap64 (a13 - 8)), .int .i64 (wrap64 (a13 - 1))] 3, blk g350 #[.int .i64 a12, .int .i64 (wrap64 (a13 + 1))] 3, blk g360 #[.int .i64 3, .int .i64 t353] 3, blk g366 #[.int .i64 t363, .int .i64 4] 3, blk g423 #[.int .i64 2, .int .i64 t394] 3, blk g428 #[.int .i64 2, .int .i64 (wrap64 ((wrap64 (a13 - 8)) + 1))] 3] w432) := ⟨HS.out.call (l := []) (rest := [blk g16 #[.int .i64 a12, .int .i64 a13, .int .i64 a14, .int .i64 a15] 32, blk g19 #[.int .i64 0, .int .i64 0, .int .i64 0, .int .i64 0, .int .i64 0, .int .i64 0, .int .i64 0, .int .i64 0] 38, blk g73 #[.int .i64 a12, .int .i64 a13] 3, blk g150 #[.int .i64 24, .int .i64 a14, .int .i64 t147] 3, blk g176 #[.int .i64 t173, .int .i64 (wrap64 (a13 - 8)), .int .i64 (wrap64 ((wrap64 (a13 - 8)) + 1)), .int .i64 t342, .int .i64 t369, .int .i64 t353, .int .i64 0, .int .i64 0] 38, blk g339 #[.int .i64 (wrap64 (a13 - 8)), .int .i64 (wrap64 (a13 - 1))] 3, blk g350 #[.int .i64 a12, .int .i64 (wrap64 (a13 + 1))] 3, blk g360 #[.int .i64 3, .int .i64 t353] 3, blk g366 #[.int .i64 t363, .int .i64 4] 3, blk g423 #[.int .i64 2, .int .i64 t394] 3, blk g428 #[.int .i64 2, .int .i64 (wrap64 ((wrap64 (a13 - 8)) + 1))] 3]) hS⟩
              clear HS hS
              have HS := HS_
              clear HS_
              refine ⟨_, rfl, ?_⟩
              refine hK.out _ _ (⟨blk_cellv (HS.out.at4) 4 rfl, blk_cellv (HS.out.at0) 3 rfl, blk_cellv (HS.out.at4) 2 rfl⟩) (fun hHeld => ?_)
              clear hK K
              refine norm_ (a' := ?_) ?_ ?_
              rotate_left
              · show Act.put _ (some 63) _ = _
                simp only [Act.put, List.setIfInBounds_toArray, List.set_cons_zero, List.set_cons_succ, i64_w, i32_w]
                rfl
              refine one_ (i := 11) (N := some 64) #[true, true, true, true, true, true, true, true, true, true, true, true, false, false, false] rfl rfl (by kernel_rfl) (by decide) (fun K hK => ?_)
              refine slice_step (n := 2) (by rfl) (N := 64) rfl (cs := #[.int .i64 t400, .int .i64 t406]) (t := 3) ?hr ?_
              case hr => first | (go_simp; done) | (go_simp; rfl)
              intro g433 hg w434 hbox hb
              have HS_ : Aside0 (Sep (fps []) w [blk g16 #[.int .i64 a12, .int .i64 a13, .int .i64 a14, .int .i64 a15] 32, blk g19 #[.int .i64 0, .int .i64 0, .int .i64 0, .int .i64 0, .int .i64 0, .int .i64 0, .int .i64 0, .int .i64 0] 38, blk g73 #[.int .i64 a12, .int .i64 a13] 3, blk g150 #[.int .i64 24, .int .i64 a14, .int .i64 t147] 3, blk g176 #[.int .i64 t173, .int .i64 (wrap64 (a13 - 8)), .int .i64 (wrap64 ((wrap64 (a13 - 8)) + 1)), .int .i64 t342, .int .i64 t369, .int .i64 t353, .int .i64 0, .int .i64 0] 38, blk g339 #[.int .i64 (wrap64 (a13 - 8)), .int .i64 (wrap64 (a13 - 1))] 3, blk g350 #[.int .i64 a12, .int .i64 (wrap64 (a13 + 1))] 3, blk g360 #[.int .i64 3, .int .i64 t353] 3, blk g366 #[.int .i64 t363, .int .i64 4] 3, blk g423 #[.int .i64 2, .int .i64 t394] 3, blk g428 #[.int .i64 2, .int .i64 (wrap64 ((wrap64 (a13 - 8)) + 1))] 3, blk g433 #[.int .i64 t400, .int .i64 t406] 3] w434) := ⟨HS.out.box hg hbox hb⟩
              clear HS hg hbox hb
              have HS := HS_
              clear HS_
              refine hK.out _ _ (⟨blk_cellv (HS.out.at4) 4 rfl, blk_cellv (HS.out.at0) 3 rfl, blk_cellv (HS.out.at4) 2 rfl⟩) (fun hHeld => ?_)
              clear hK K
              refine norm_ (a' := ?_) ?_ ?_
              rotate_left
              · show Act.put _ (some 64) _ = _
                simp only [Act.put, List.setIfInBounds_toArray, List.set_cons_zero, List.set_cons_succ, i64_w, i32_w]
                rfl
              refine one_ (i := 12) (N := some 65) #[true, true, true, true, true, true, true, true, true, true, true, true, true, false, false] rfl rfl (by kernel_rfl) (by decide) (fun K hK => ?_)
              refine goes_ Try.func41 (by kernel_rfl) rfl #[.slice (some ⟨g433, 0, none⟩) 2 2] (by rfl) rfl rfl (by (try simp only [List.map_toArray, List.map_cons, List.map_nil]); first | done | rfl) ?_
              refine (ratio_Add.calls _ [t400, t406] (some ⟨g433, 0, none⟩) 2 t412 _ ⟨C_of_blk (xs := [t400, t406]) (HS.out.nth 11 rfl) (by simp)⟩ ⟨HS.out.begin (l := []) (rest := [blk g16 #[.int .i64 a12, .int .i64 a13, .int .i64 a14, .int .i64 a15] 32, blk g19 #[.int .i64 0, .int .i64 0, .int .i64 0, .int .i64 0, .int .i64 0, .int .i64 0, .int .i64 0, .int .i64 0] 38, blk g73 #[.int .i64 a12, .int .i64 a13] 3, blk g150 #[.int .i64 24, .int .i64 a14, .int .i64 t147] 3, blk g176 #[.int .i64 t173, .int .i64 (wrap64 (a13 - 8)), .int .i64 (wrap64 ((wrap64 (a13 - 8)) + 1)), .int .i64 t342, .int .i64 t369, .int .i64 t353, .int .i64 0, .int .i64 0] 38, blk g339 #[.int .i64 (wrap64 (a13 - 8)), .int .i64 (wrap64 (a13 - 1))] 3, blk g350 #[.int .i64 a12, .int .i64 (wrap64 (a13 + 1))] 3, blk g360 #[.int .i64 3, .int .i64 t353] 3, blk g366 #[.int .i64 t363, .int .i64 4] 3, blk g423 #[.int .i64 2, .int .i64 t394] 3, blk g428 #[.int .i64 2, .int .i64 (wrap64 ((wrap64 (a13 - 8)) + 1))] 3, blk g433 #[.int .i64 t400, .int .i64 t406] 3])⟩ HA413).mono ?_
              rintro e_ w437 ⟨rfl, hS⟩
              have HS_ : Aside0 (Sep (fps []) w [blk g16 #[.int .i64 a12, .int .i64 a13, .int .i64 a14, .int .i64 a15] 32, blk g19 #[.int .i64 0, .int .i64 0, .int .i64 0, .int .i64 0, .int .i64 0, .int .i64 0, .int .i64 0, .int .i64 0] 38, blk g73 #[.int .i64 a12, .int .i64 a13] 3, blk g150 #[.int .i64 24, .int .i64 a14, .int .i64 t147] 3, blk g176 #[.int .i64 t173, .int .i64 (wrap64 (a13 - 8)), .int .i64 (wrap64 ((wrap64 (a13 - 8)) + 1)), .int .i64 t342, .int .i64 t369, .int .i64 t353, .int .i64 0, .int .i64 0] 38, blk g339 #[.int .i64 (wrap64 (a13 - 8)), .int .i64 (wrap64 (a13 - 1))] 3, blk g350 #[.int .i64 a12, .int .i64 (wrap64 (a13 + 1))] 3, blk g360 #[.int .i64 3, .int .i64 t353] 3, blk g366 #[.int .i64 t363, .int .i64 4] 3, blk g423 #[.int .i64 2, .int .i64 t394] 3, blk g428 #[.int .i64 2, .int .i64 (wrap64 ((wrap64 (a13 - 8)) + 1))] 3, blk g433 #[.int .i64 t400, .int .i64 t406] 3] w437) := ⟨HS.out.call (l := []) (rest := [blk g16 #[.int .i64 a12, .int .i64 a13, .int .i64 a14, .int .i64 a15] 32, blk g19 #[.int .i64 0, .int .i64 0, .int .i64 0, .int .i64 0, .int .i64 0, .int .i64 0, .int .i64 0, .int .i64 0] 38, blk g73 #[.int .i64 a12, .int .i64 a13] 3, blk g150 #[.int .i64 24, .int .i64 a14, .int .i64 t147] 3, blk g176 #[.int .i64 t173, .int .i64 (wrap64 (a13 - 8)), .int .i64 (wrap64 ((wrap64 (a13 - 8)) + 1)), .int .i64 t342, .int .i64 t369, .int .i64 t353, .int .i64 0, .int .i64 0] 38, blk g339 #[.int .i64 (wrap64 (a13 - 8)), .int .i64 (wrap64 (a13 - 1))] 3, blk g350 #[.int .i64 a12, .int .i64 (wrap64 (a13 + 1))] 3, blk g360 #[.int .i64 3, .int .i64 t353] 3, blk g366 #[.int .i64 t363, .int .i64 4] 3, blk g423 #[.int .i64 2, .int .i64 t394] 3, blk g428 #[.int .i64 2, .int .i64 (wrap64 ((wrap64 (a13 - 8)) + 1))] 3, blk g433 #[.int .i64 t400, .int .i64 t406] 3]) hS⟩
              clear HS hS
              have HS := HS_
              clear HS_
              refine ⟨_, rfl, ?_⟩
              refine hK.out _ _ (⟨blk_cellv (HS.out.at4) 4 rfl, blk_cellv (HS.out.at0) 3 rfl, blk_cellv (HS.out.at4) 2 rfl⟩) (fun hHeld => ?_)
              clear hK K
              refine norm_ (a' := ?_) ?_ ?_
              rotate_left
              · show Act.put _ (some 65) _ = _
                simp only [Act.put, List.setIfInBounds_toArray, List.set_cons_zero, List.set_cons_succ, i64_w, i32_w]
                rfl
              refine pure_ (i := 13) (N := some 66) (v := ?_) (a' := ?_) #[true, true, true, true, true, true, true, true, true, true, true, true, true, true, false] rfl rfl (by kernel_rfl) (fun _ _ _ h => h) (Or.inl ⟨by rfl, ?_⟩) ?_ ?_
              rotate_left
              · intro w'
                go_simp
                with_reducible rfl
              rotate_left
              · simp only [Act.put, List.setIfInBounds_toArray, List.set_cons_zero, List.set_cons_succ, i64_w, i32_w]
                rfl
              refine one_ (i := 14) (N := none) #[true, true, true, true, true, true, true, true, true, true, true, true, true, true, true] rfl rfl (by kernel_rfl) (by decide) (fun K hK => ?_)
              have hc439 := blk_cellv (v := .int .i64 0) (HS.out.at4) 6 rfl
              have hz440 := blk_fz (HS.out.at4) 6
              refine store_step (w1 := (World.setCell w437 ⟨g176, 6, none⟩ (.int .i64 t412))) (by rfl) rfl ?hr ?_
              case hr => first | (go_simp; done) | (go_simp; rfl)
              clear hc439 hz440
              intro w438 hst
              have hq0 : Sep (fps []) w [blk g16 #[.int .i64 a12, .int .i64 a13, .int .i64 a14, .int .i64 a15] 32, blk g19 #[.int .i64 0, .int .i64 0, .int .i64 0, .int .i64 0, .int .i64 0, .int .i64 0, .int .i64 0, .int .i64 0] 38, blk g73 #[.int .i64 a12, .int .i64 a13] 3, blk g150 #[.int .i64 24, .int .i64 a14, .int .i64 t147] 3, blk g176 #[.int .i64 t173, .int .i64 (wrap64 (a13 - 8)), .int .i64 (wrap64 ((wrap64 (a13 - 8)) + 1)), .int .i64 t342, .int .i64 t369, .int .i64 t353, .int .i64 t412, .int .i64 0] 38, blk g339 #[.int .i64 (wrap64 (a13 - 8)), .int .i64 (wrap64 (a13 - 1))] 3, blk g350 #[.int .i64 a12, .int .i64 (wrap64 (a13 + 1))] 3, blk g360 #[.int .i64 3, .int .i64 t353] 3, blk g366 #[.int .i64 t363, .int .i64 4] 3, blk g423 #[.int .i64 2, .int .i64 t394] 3, blk g428 #[.int .i64 2, .int .i64 (wrap64 ((wrap64 (a13 - 8)) + 1))] 3, blk g433 #[.int .i64 t400, .int .i64 t406] 3] (World.setCell w437 ⟨g176, 6, none⟩ (.int .i64 t412)) := (HS.out).set1 (l1 := [blk g16 #[.int .i64 a12, .int .i64 a13, .int .i64 a14, .int .i64 a15] 32, blk g19 #[.int .i64 0, .int .i64 0, .int .i64 0, .int .i64 0, .int .i64 0, .int .i64 0, .int .i64 0, .int .i64 0] 38, blk g73 #[.int .i64 a12, .int .i64 a13] 3, blk g150 #[.int .i64 24, .int .i64 a14, .int .i64 t147] 3]) (l2 := [blk g339 #[.int .i64 (wrap64 (a13 - 8)), .int .i64 (wrap64 (a13 - 1))] 3, blk g350 #[.int .i64 a12, .int .i64 (wrap64 (a13 + 1))] 3, blk g360 #[.int .i64 3, .int .i64 t353] 3, blk g366 #[.int .i64 t363, .int .i64 4] 3, blk g423 #[.int .i64 2, .int .i64 t394] 3, blk g428 #[.int .i64 2, .int .i64 (wrap64 ((wrap64 (a13 - 8)) + 1))] 3, blk g433 #[.int .i64 t400, .int .i64 t406] 3]) 6 (.int .i64 t412)
              have HS_ : Aside0 (Sep (fps []) w [blk g16 #[.int .i64 a12, .int .i64 a13, .int .i64 a14, .int .i64 a15] 32, blk g19 #[.int .i64 0, .int .i64 0, .int .i64 0, .int .i64 0, .int .i64 0, .int .i64 0, .int .i64 0, .int .i64 0] 38, blk g73 #[.int .i64 a12, .int .i64 a13] 3, blk g150 #[.int .i64 24, .int .i64 a14, .int .i64 t147] 3, blk g176 #[.int .i64 t173, .int .i64 (wrap64 (a13 - 8)), .int .i64 (wrap64 ((wrap64 (a13 - 8)) + 1)), .int .i64 t342, .int .i64 t369, .int .i64 t353, .int .i64 t412, .int .i64 0] 38, blk g339 #[.int .i64 (wrap64 (a13 - 8)), .int .i64 (wrap64 (a13 - 1))] 3, blk g350 #[.int .i64 a12, .int .i64 (wrap64 (a13 + 1))] 3, blk g360 #[.int .i64 3, .int .i64 t353] 3, blk g366 #[.int .i64 t363, .int .i64 4] 3, blk g423 #[.int .i64 2, .int .i64 t394] 3, blk g428 #[.int .i64 2, .int .i64 (wrap64 ((wrap64 (a13 - 8)) + 1))] 3, blk g433 #[.int .i64 t400, .int .i64 t406] 3] w438) := ⟨by rw [hst]; exact hq0⟩
              clear hq0
              clear HS hst
              have HS := HS_
              clear HS_
              refine hK.out _ _ (⟨blk_cellv (HS.out.at4) 4 rfl, blk_cellv (HS.out.at0) 3 rfl, blk_cellv (HS.out.at4) 2 rfl⟩) (fun hHeld => ?_)
              clear hK K
              refine done_ (by kernel_rfl) ?_
              go_wp2_with fail
              go_meet
              case rel => exact ⟨g423, g428, g433, ⟨((((((((((((HS.out).front 11 (by simp)).front 11 (by simp)).front 11 (by simp)).front 11 (by simp)).front 11 (by simp)).front 11 (by simp)).front 11 (by simp)).front 11 (by simp)).front 11 (by simp)).front 11 (by simp)).front 11 (by simp)).front 11 (by simp)⟩⟩
            · refine slice_step (n := 2) (by rfl) (N := 62) rfl (cs := #[.int .i64 2, .int .i64 (wrap64 ((wrap64 (a13 - 8)) + 1))]) (t := 3) ?hr ?_
              case hr => first | (go_simp; done) | (go_simp; rfl)
              intro g441 hg w442 hbox hb
              have HS_ : Aside0 (Sep (fps []) w [blk g16 #[.int .i64 a12, .int .i64 a13, .int .i64 a14, .int .i64 a15] 32, blk g19 #[.int .i64 0, .int .i64 0, .int .i64 0, .int .i64 0, .int .i64 0, .int .i64 0, .int .i64 0, .int .i64 0] 38, blk g73 #[.int .i64 a12, .int .i64 a13] 3, blk g150 #[.int .i64 24, .int .i64 a14, .int .i64 t147] 3, blk g176 #[.int .i64 t173, .int .i64 (wrap64 (a13 - 8)), .int .i64 (wrap64 ((wrap64 (a13 - 8)) + 1)), .int .i64 t342, .int .i64 t369, .int .i64 t353, .int .i64 0, .int .i64 0] 38, blk g339 #[.int .i64 (wrap64 (a13 - 8)), .int .i64 (wrap64 (a13 - 1))] 3, blk g350 #[.int .i64 a12, .int .i64 (wrap64 (a13 + 1))] 3, blk g360 #[.int .i64 3, .int .i64 t353] 3, blk g366 #[.int .i64 t363, .int .i64 4] 3, blk g423 #[.int .i64 2, .int .i64 t394] 3, blk g441 #[.int .i64 2, .int .i64 (wrap64 ((wrap64 (a13 - 8)) + 1))] 3] w442) := ⟨HS.out.box hg hbox hb⟩
              clear HS hg hbox hb
              have HS := HS_
              clear HS_
              refine hK.out _ _ (⟨blk_cellv (HS.out.at4) 4 rfl, blk_cellv (HS.out.at0) 3 rfl, blk_cellv (HS.out.at4) 2 rfl⟩) (fun hHeld => ?_)
              clear hK K
              refine norm_ (a' := ?_) ?_ ?_
              rotate_left
              · show Act.put _ (some 62) _ = _
                simp only [Act.put, List.setIfInBounds_toArray, List.set_cons_zero, List.set_cons_succ, i64_w, i32_w]
                rfl
              refine one_ (i := 6) (N := some 59) #[true, true, true, true, true, true, true, true, true, true, false, false, false, false, false] rfl rfl (by kernel_rfl) (by decide) (fun K hK => ?_)
              refine goes_ Try.func42 (by kernel_rfl) rfl #[.slice (some ⟨g423, 0, none⟩) 2 2] (by rfl) rfl rfl (by (try simp only [List.map_toArray, List.map_cons, List.map_nil]); first | done | rfl) ?_
              refine (ratio_Mul.calls _ [2, t394] (some ⟨g423, 0, none⟩) 2 t400 _ ⟨C_of_blk (xs := [2, t394]) (HS.out.nth 9 rfl) (by simp)⟩ ⟨HS.out.begin (l := []) (rest := [blk g16 #[.int .i64 a12, .int .i64 a13, .int .i64 a14, .int .i64 a15] 32, blk g19 #[.int .i64 0, .int .i64 0, .int .i64 0, .int .i64 0, .int .i64 0, .int .i64 0, .int .i64 0, .int .i64 0] 38, blk g73 #[.int .i64 a12, .int .i64 a13] 3, blk g150 #[.int .i64 24, .int .i64 a14, .int .i64 t147] 3, blk g176 #[.int .i64 t173, .int .i64 (wrap64 (a13 - 8)), .int .i64 (wrap64 ((wrap64 (a13 - 8)) + 1)), .int .i64 t342, .int .i64 t369, .int .i64 t353, .int .i64 0, .int .i64 0] 38, blk g339 #[.int .i64 (wrap64 (a13 - 8)), .int .i64 (wrap64 (a13 - 1))] 3, blk g350 #[.int .i64 a12, .int .i64 (wrap64 (a13 + 1))] 3, blk g360 #[.int .i64 3, .int .i64 t353] 3, blk g366 #[.int .i64 t363, .int .i64 4] 3, blk g423 #[.int .i64 2, .int .i64 t394] 3, blk g441 #[.int .i64 2, .int .i64 (wrap64 ((wrap64 (a13 - 8)) + 1))] 3])⟩ HA401).mono ?_
              rintro e_ w445 ⟨rfl, hS⟩
              have HS_ : Aside0 (Sep (fps []) w [blk g16 #[.int .i64 a12, .int .i64 a13, .int .i64 a14, .int .i64 a15] 32, blk g19 #[.int .i64 0, .int .i64 0, .int .i64 0, .int .i64 0, .int .i64 0, .int .i64 0, .int .i64 0, .int .i64 0] 38, blk g73 #[.int .i64 a12, .int .i64 a13] 3, blk g150 #[.int .i64 24, .int .i64 a14, .int .i64 t147] 3, blk g176 #[.int .i64 t173, .int .i64 (wrap64 (a13 - 8)), .int .i64 (wrap64 ((wrap64 (a13 - 8)) + 1)), .int .i64 t342, .int .i64 t369, .int .i64 t353, .int .i64 0, .int .i64 0] 38, blk g339 #[.int .i64 (wrap64 (a13 - 8)), .int .i64 (wrap64 (a13 - 1))] 3, blk g350 #[.int .i64 a12, .int .i64 (wrap64 (a13 + 1))] 3, blk g360 #[.int .i64 3, .int .i64 t353] 3, blk g366 #[.int .i64 t363, .int .i64 4] 3, blk g423 #[.int .i64 2, .int .i64 t394] 3, blk g441 #[.int .i64 2, .int .i64 (wrap64 ((wrap64 (a13 - 8)) + 1))] 3] w445) := ⟨HS.out.call (l := []) (rest := [blk g16 #[.int .i64 a12, .int .i64 a13, .int .i64 a14, .int .i64 a15] 32, blk g19 #[.int .i64 0, .int .i64 0, .int .i64 0, .int .i64 0, .int .i64 0, .int .i64 0, .int .i64 0, .int .i64 0] 38, blk g73 #[.int .i64 a12, .int .i64 a13] 3, blk g150 #[.int .i64 24, .int .i64 a14, .int .i64 t147] 3, blk g176 #[.int .i64 t173, .int .i64 (wrap64 (a13 - 8)), .int .i64 (wrap64 ((wrap64 (a13 - 8)) + 1)), .int .i64 t342, .int .i64 t369, .int .i64 t353, .int .i64 0, .int .i64 0] 38, blk g339 #[.int .i64 (wrap64 (a13 - 8)), .int .i64 (wrap64 (a13 - 1))] 3, blk g350 #[.int .i64 a12, .int .i64 (wrap64 (a13 + 1))] 3, blk g360 #[.int .i64 3, .int .i64 t353] 3, blk g366 #[.int .i64 t363, .int .i64 4] 3, blk g423 #[.int .i64 2, .int .i64 t394] 3, blk g441 #[.int .i64 2, .int .i64 (wrap64 ((wrap64 (a13 - 8)) + 1))] 3]) hS⟩
              clear HS hS
              have HS := HS_
              clear HS_
              refine ⟨_, rfl, ?_⟩
              refine hK.out _ _ (⟨blk_cellv (HS.out.at4) 4 rfl, blk_cellv (HS.out.at0) 3 rfl, blk_cellv (HS.out.at4) 2 rfl⟩) (fun hHeld => ?_)
              clear hK K
              refine norm_ (a' := ?_) ?_ ?_
              rotate_left
              · show Act.put _ (some 59) _ = _
                simp only [Act.put, List.setIfInBounds_toArray, List.set_cons_zero, List.set_cons_succ, i64_w, i32_w]
                rfl
              refine one_ (i := 10) (N := some 63) #[true, true, true, true, true, true, true, true, true, true, true, false, false, false, false] rfl rfl (by kernel_rfl) (by decide) (fun K hK => ?_)
              refine goes_ Try.func42 (by kernel_rfl) rfl #[.slice (some ⟨g441, 0, none⟩) 2 2] (by rfl) rfl rfl (by (try simp only [List.map_toArray, List.map_cons, List.map_nil]); first | done | rfl) ?_
              refine (ratio_Mul.calls _ [2, wrap64 ((wrap64 (a13 - 8)) + 1)] (some ⟨g441, 0, none⟩) 2 t406 _ ⟨C_of_blk (xs := [2, wrap64 ((wrap64 (a13 - 8)) + 1)]) (HS.out.nth 10 rfl) (by simp)⟩ ⟨HS.out.begin (l := []) (rest := [blk g16 #[.int .i64 a12, .int .i64 a13, .int .i64 a14, .int .i64 a15] 32, blk g19 #[.int .i64 0, .int .i64 0, .int .i64 0, .int .i64 0, .int .i64 0, .int .i64 0, .int .i64 0, .int .i64 0] 38, blk g73 #[.int .i64 a12, .int .i64 a13] 3, blk g150 #[.int .i64 24, .int .i64 a14, .int .i64 t147] 3, blk g176 #[.int .i64 t173, .int .i64 (wrap64 (a13 - 8)), .int .i64 (wrap64 ((wrap64 (a13 - 8)) + 1)), .int .i64 t342, .int .i64 t369, .int .i64 t353, .int .i64 0, .int .i64 0] 38, blk g339 #[.int .i64 (wrap64 (a13 - 8)), .int .i64 (wrap64 (a13 - 1))] 3, blk g350 #[.int .i64 a12, .int .i64 (wrap64 (a13 + 1))] 3, blk g360 #[.int .i64 3, .int .i64 t353] 3, blk g366 #[.int .i64 t363, .int .i64 4] 3, blk g423 #[.int .i64 2, .int .i64 t394] 3, blk g441 #[.int .i64 2, .int .i64 (wrap64 ((wrap64 (a13 - 8)) + 1))] 3])⟩ HA407).mono ?_
              rintro e_ w447 ⟨rfl, hS⟩
              have HS_ : Aside0 (Sep (fps []) w [blk g16 #[.int .i64 a12, .int .i64 a13, .int .i64 a14, .int .i64 a15] 32, blk g19 #[.int .i64 0, .int .i64 0, .int .i64 0, .int .i64 0, .int .i64 0, .int .i64 0, .int .i64 0, .int .i64 0] 38, blk g73 #[.int .i64 a12, .int .i64 a13] 3, blk g150 #[.int .i64 24, .int .i64 a14, .int .i64 t147] 3, blk g176 #[.int .i64 t173, .int .i64 (wrap64 (a13 - 8)), .int .i64 (wrap64 ((wrap64 (a13 - 8)) + 1)), .int .i64 t342, .int .i64 t369, .int .i64 t353, .int .i64 0, .int .i64 0] 38, blk g339 #[.int .i64 (wrap64 (a13 - 8)), .int .i64 (wrap64 (a13 - 1))] 3, blk g350 #[.int .i64 a12, .int .i64 (wrap64 (a13 + 1))] 3, blk g360 #[.int .i64 3, .int .i64 t353] 3, blk g366 #[.int .i64 t363, .int .i64 4] 3, blk g423 #[.int .i64 2, .int .i64 t394] 3, blk g441 #[.int .i64 2, .int .i64 (wrap64 ((wrap64 (a13 - 8)) + 1))] 3] w447) := ⟨HS.out.call (l := []) (rest := [blk g16 #[.int .i64 a12, .int .i64 a13, .int .i64 a14, .int .i64 a15] 32, blk g19 #[.int .i64 0, .int .i64 0, .int .i64 0, .int .i64 0, .int .i64 0, .int .i64 0, .int .i64 0, .int .i64 0] 38, blk g73 #[.int .i64 a12, .int .i64 a13] 3, blk g150 #[.int .i64 24, .int .i64 a14, .int .i64 t147] 3, blk g176 #[.int .i64 t173, .int .i64 (wrap64 (a13 - 8)), .int .i64 (wrap64 ((wrap64 (a13 - 8)) + 1)), .int .i64 t342, .int .i64 t369, .int .i64 t353, .int .i64 0, .int .i64 0] 38, blk g339 #[.int .i64 (wrap64 (a13 - 8)), .int .i64 (wrap64 (a13 - 1))] 3, blk g350 #[.int .i64 a12, .int .i64 (wrap64 (a13 + 1))] 3, blk g360 #[.int .i64 3, .int .i64 t353] 3, blk g366 #[.int .i64 t363, .int .i64 4] 3, blk g423 #[.int .i64 2, .int .i64 t394] 3, blk g441 #[.int .i64 2, .int .i64 (wrap64 ((wrap64 (a13 - 8)) + 1))] 3]) hS⟩
              clear HS hS
              have HS := HS_
              clear HS_
              refine ⟨_, rfl, ?_⟩
              refine hK.out _ _ (⟨blk_cellv (HS.out.at4) 4 rfl, blk_cellv (HS.out.at0) 3 rfl, blk_cellv (HS.out.at4) 2 rfl⟩) (fun hHeld => ?_)
              clear hK K
              refine norm_ (a' := ?_) ?_ ?_
              rotate_left
              · show Act.put _ (some 63) _ = _
                simp only [Act.put, List.setIfInBounds_toArray, List.set_cons_zero, List.set_cons_succ, i64_w, i32_w]
                rfl
              refine one_ (i := 11) (N := some 64) #[true, true, true, true, true, true, true, true, true, true, true, true, false, false, false] rfl rfl (by kernel_rfl) (by decide) (fun K hK => ?_)
              refine slice_step (n := 2) (by rfl) (N := 64) rfl (cs := #[.int .i64 t400, .int .i64 t406]) (t := 3) ?hr ?_
              case hr => first | (go_simp; done) | (go_simp; rfl)
              intro g448 hg w449 hbox hb
              have HS_ : Aside0 (Sep (fps []) w [blk g16 #[.int .i64 a12, .int .i64 a13, .int .i64 a14, .int .i64 a15] 32, blk g19 #[.int .i64 0, .int .i64 0, .int .i64 0, .int .i64 0, .int .i64 0, .int .i64 0, .int .i64 0, .int .i64 0] 38, blk g73 #[.int .i64 a12, .int .i64 a13] 3, blk g150 #[.int .i64 24, .int .i64 a14, .int .i64 t147] 3, blk g176 #[.int .i64 t173, .int .i64 (wrap64 (a13 - 8)), .int .i64 (wrap64 ((wrap64 (a13 - 8)) + 1)), .int .i64 t342, .int .i64 t369, .int .i64 t353, .int .i64 0, .int .i64 0] 38, blk g339 #[.int .i64 (wrap64 (a13 - 8)), .int .i64 (wrap64 (a13 - 1))] 3, blk g350 #[.int .i64 a12, .int .i64 (wrap64 (a13 + 1))] 3, blk g360 #[.int .i64 3, .int .i64 t353] 3, blk g366 #[.int .i64 t363, .int .i64 4] 3, blk g423 #[.int .i64 2, .int .i64 t394] 3, blk g441 #[.int .i64 2, .int .i64 (wrap64 ((wrap64 (a13 - 8)) + 1))] 3, blk g448 #[.int .i64 t400, .int .i64 t406] 3] w449) := ⟨HS.out.box hg hbox hb⟩
              clear HS hg hbox hb
              have HS := HS_
              clear HS_
              refine hK.out _ _ (⟨blk_cellv (HS.out.at4) 4 rfl, blk_cellv (HS.out.at0) 3 rfl, blk_cellv (HS.out.at4) 2 rfl⟩) (fun hHeld => ?_)
              clear hK K
              refine norm_ (a' := ?_) ?_ ?_
              rotate_left
              · show Act.put _ (some 64) _ = _
                simp only [Act.put, List.setIfInBounds_toArray, List.set_cons_zero, List.set_cons_succ, i64_w, i32_w]
                rfl
              refine one_ (i := 12) (N := some 65) #[true, true, true, true, true, true, true, true, true, true, true, true, true, false, false] rfl rfl (by kernel_rfl) (by decide) (fun K hK => ?_)
              refine goes_ Try.func41 (by kernel_rfl) rfl #[.slice (some ⟨g448, 0, none⟩) 2 2] (by rfl) rfl rfl (by (try simp only [List.map_toArray, List.map_cons, List.map_nil]); first | done | rfl) ?_
              refine (ratio_Add.calls _ [t400, t406] (some ⟨g448, 0, none⟩) 2 t412 _ ⟨C_of_blk (xs := [t400, t406]) (HS.out.nth 11 rfl) (by simp)⟩ ⟨HS.out.begin (l := []) (rest := [blk g16 #[.int .i64 a12, .int .i64 a13, .int .i64 a14, .int .i64 a15] 32, blk g19 #[.int .i64 0, .int .i64 0, .int .i64 0, .int .i64 0, .int .i64 0, .int .i64 0, .int .i64 0, .int .i64 0] 38, blk g73 #[.int .i64 a12, .int .i64 a13] 3, blk g150 #[.int .i64 24, .int .i64 a14, .int .i64 t147] 3, blk g176 #[.int .i64 t173, .int .i64 (wrap64 (a13 - 8)), .int .i64 (wrap64 ((wrap64 (a13 - 8)) + 1)), .int .i64 t342, .int .i64 t369, .int .i64 t353, .int .i64 0, .int .i64 0] 38, blk g339 #[.int .i64 (wrap64 (a13 - 8)), .int .i64 (wrap64 (a13 - 1))] 3, blk g350 #[.int .i64 a12, .int .i64 (wrap64 (a13 + 1))] 3, blk g360 #[.int .i64 3, .int .i64 t353] 3, blk g366 #[.int .i64 t363, .int .i64 4] 3, blk g423 #[.int .i64 2, .int .i64 t394] 3, blk g441 #[.int .i64 2, .int .i64 (wrap64 ((wrap64 (a13 - 8)) + 1))] 3, blk g448 #[.int .i64 t400, .int .i64 t406] 3])⟩ HA413).mono ?_
              rintro e_ w452 ⟨rfl, hS⟩
              have HS_ : Aside0 (Sep (fps []) w [blk g16 #[.int .i64 a12, .int .i64 a13, .int .i64 a14, .int .i64 a15] 32, blk g19 #[.int .i64 0, .int .i64 0, .int .i64 0, .int .i64 0, .int .i64 0, .int .i64 0, .int .i64 0, .int .i64 0] 38, blk g73 #[.int .i64 a12, .int .i64 a13] 3, blk g150 #[.int .i64 24, .int .i64 a14, .int .i64 t147] 3, blk g176 #[.int .i64 t173, .int .i64 (wrap64 (a13 - 8)), .int .i64 (wrap64 ((wrap64 (a13 - 8)) + 1)), .int .i64 t342, .int .i64 t369, .int .i64 t353, .int .i64 0, .int .i64 0] 38, blk g339 #[.int .i64 (wrap64 (a13 - 8)), .int .i64 (wrap64 (a13 - 1))] 3, blk g350 #[.int .i64 a12, .int .i64 (wrap64 (a13 + 1))] 3, blk g360 #[.int .i64 3, .int .i64 t353] 3, blk g366 #[.int .i64 t363, .int .i64 4] 3, blk g423 #[.int .i64 2, .int .i64 t394] 3, blk g441 #[.int .i64 2, .int .i64 (wrap64 ((wrap64 (a13 - 8)) + 1))] 3, blk g448 #[.int .i64 t400, .int .i64 t406] 3] w452) := ⟨HS.out.call (l := []) (rest := [blk g16 #[.int .i64 a12, .int .i64 a13, .int .i64 a14, .int .i64 a15] 32, blk g19 #[.int .i64 0, .int .i64 0, .int .i64 0, .int .i64 0, .int .i64 0, .int .i64 0, .int .i64 0, .int .i64 0] 38, blk g73 #[.int .i64 a12, .int .i64 a13] 3, blk g150 #[.int .i64 24, .int .i64 a14, .int .i64 t147] 3, blk g176 #[.int .i64 t173, .int .i64 (wrap64 (a13 - 8)), .int .i64 (wrap64 ((wrap64 (a13 - 8)) + 1)), .int .i64 t342, .int .i64 t369, .int .i64 t353, .int .i64 0, .int .i64 0] 38, blk g339 #[.int .i64 (wrap64 (a13 - 8)), .int .i64 (wrap64 (a13 - 1))] 3, blk g350 #[.int .i64 a12, .int .i64 (wrap64 (a13 + 1))] 3, blk g360 #[.int .i64 3, .int .i64 t353] 3, blk g366 #[.int .i64 t363, .int .i64 4] 3, blk g423 #[.int .i64 2, .int .i64 t394] 3, blk g441 #[.int .i64 2, .int .i64 (wrap64 ((wrap64 (a13 - 8)) + 1))] 3, blk g448 #[.int .i64 t400, .int .i64 t406] 3]) hS⟩
              clear HS hS
              have HS := HS_
              clear HS_
              refine ⟨_, rfl, ?_⟩
              refine hK.out _ _ (⟨blk_cellv (HS.out.at4) 4 rfl, blk_cellv (HS.out.at0) 3 rfl, blk_cellv (HS.out.at4) 2 rfl⟩) (fun hHeld => ?_)
              clear hK K
              refine norm_ (a' := ?_) ?_ ?_
              rotate_left
              · show Act.put _ (some 65) _ = _
                simp only [Act.put, List.setIfInBounds_toArray, List.set_cons_zero, List.set_cons_succ, i64_w, i32_w]
                rfl
              refine pure_ (i := 13) (N := some 66) (v := ?_) (a' := ?_) #[true, true, true, true, true, true, true, true, true, true, true, true, true, true, false] rfl rfl (by kernel_rfl) (fun _ _ _ h => h) (Or.inl ⟨by rfl, ?_⟩) ?_ ?_
              rotate_left
              · intro w'
                go_simp
                with_reducible rfl
              rotate_left
              · simp only [Act.put, List.setIfInBounds_toArray, List.set_cons_zero, List.set_cons_succ, i64_w, i32_w]
                rfl
              refine one_ (i := 14) (N := none) #[true, true, true, true, true, true, true, true, true, true, true, true, true, true, true] rfl rfl (by kernel_rfl) (by decide) (fun K hK => ?_)
              have hc454 := blk_cellv (v := .int .i64 0) (HS.out.at4) 6 rfl
              have hz455 := blk_fz (HS.out.at4) 6
              refine store_step (w1 := (World.setCell w452 ⟨g176, 6, none⟩ (.int .i64 t412))) (by rfl) rfl ?hr ?_
              case hr => first | (go_simp; done) | (go_simp; rfl)
              clear hc454 hz455
              intro w453 hst
              have hq0 : Sep (fps []) w [blk g16 #[.int .i64 a12, .int .i64 a13, .int .i64 a14, .int .i64 a15] 32, blk g19 #[.int .i64 0, .int .i64 0, .int .i64 0, .int .i64 0, .int .i64 0, .int .i64 0, .int .i64 0, .int .i64 0] 38, blk g73 #[.int .i64 a12, .int .i64 a13] 3, blk g150 #[.int .i64 24, .int .i64 a14, .int .i64 t147] 3, blk g176 #[.int .i64 t173, .int .i64 (wrap64 (a13 - 8)), .int .i64 (wrap64 ((wrap64 (a13 - 8)) + 1)), .int .i64 t342, .int .i64 t369, .int .i64 t353, .int .i64 t412, .int .i64 0] 38, blk g339 #[.int .i64 (wrap64 (a13 - 8)), .int .i64 (wrap64 (a13 - 1))] 3, blk g350 #[.int .i64 a12, .int .i64 (wrap64 (a13 + 1))] 3, blk g360 #[.int .i64 3, .int .i64 t353] 3, blk g366 #[.int .i64 t363, .int .i64 4] 3, blk g423 #[.int .i64 2, .int .i64 t394] 3, blk g441 #[.int .i64 2, .int .i64 (wrap64 ((wrap64 (a13 - 8)) + 1))] 3, blk g448 #[.int .i64 t400, .int .i64 t406] 3] (World.setCell w452 ⟨g176, 6, none⟩ (.int .i64 t412)) := (HS.out).set1 (l1 := [blk g16 #[.int .i64 a12, .int .i64 a13, .int .i64 a14, .int .i64 a15] 32, blk g19 #[.int .i64 0, .int .i64 0, .int .i64 0, .int .i64 0, .int .i64 0, .int .i64 0, .int .i64 0, .int .i64 0] 38, blk g73 #[.int .i64 a12, .int .i64 a13] 3, blk g150 #[.int .i64 24, .int .i64 a14, .int .i64 t147] 3]) (l2 := [blk g339 #[.int .i64 (wrap64 (a13 - 8)), .int .i64 (wrap64 (a13 - 1))] 3, blk g350 #[.int .i64 a12, .int .i64 (wrap64 (a13 + 1))] 3, blk g360 #[.int .i64 3, .int .i64 t353] 3, blk g366 #[.int .i64 t363, .int .i64 4] 3, blk g423 #[.int .i64 2, .int .i64 t394] 3, blk g441 #[.int .i64 2, .int .i64 (wrap64 ((wrap64 (a13 - 8)) + 1))] 3, blk g448 #[.int .i64 t400, .int .i64 t406] 3]) 6 (.int .i64 t412)
              have HS_ : Aside0 (Sep (fps []) w [blk g16 #[.int .i64 a12, .int .i64 a13, .int .i64 a14, .int .i64 a15] 32, blk g19 #[.int .i64 0, .int .i64 0, .int .i64 0, .int .i64 0, .int .i64 0, .int .i64 0, .int .i64 0, .int .i64 0] 38, blk g73 #[.int .i64 a12, .int .i64 a13] 3, blk g150 #[.int .i64 24, .int .i64 a14, .int .i64 t147] 3, blk g176 #[.int .i64 t173, .int .i64 (wrap64 (a13 - 8)), .int .i64 (wrap64 ((wrap64 (a13 - 8)) + 1)), .int .i64 t342, .int .i64 t369, .int .i64 t353, .int .i64 t412, .int .i64 0] 38, blk g339 #[.int .i64 (wrap64 (a13 - 8)), .int .i64 (wrap64 (a13 - 1))] 3, blk g350 #[.int .i64 a12, .int .i64 (wrap64 (a13 + 1))] 3, blk g360 #[.int .i64 3, .int .i64 t353] 3, blk g366 #[.int .i64 t363, .int .i64 4] 3, blk g423 #[.int .i64 2, .int .i64 t394] 3, blk g441 #[.int .i64 2, .int .i64 (wrap64 ((wrap64 (a13 - 8)) + 1))] 3, blk g448 #[.int .i64 t400, .int .i64 t406] 3] w453) := ⟨by rw [hst]; exact hq0⟩
              clear hq0
              clear HS hst
              have HS := HS_
              clear HS_
              refine hK.out _ _ (⟨blk_cellv (HS.out.at4) 4 rfl, blk_cellv (HS.out.at0) 3 rfl, blk_cellv (HS.out.at4) 2 rfl⟩) (fun hHeld => ?_)
              clear hK K
              refine done_ (by kernel_rfl) ?_
              go_wp2_with fail
              go_meet
              case rel => exact ⟨g423, g441, g448, ⟨((((((((((((HS.out).front 11 (by simp)).front 11 (by simp)).front 11 (by simp)).front 11 (by simp)).front 11 (by simp)).front 11 (by simp)).front 11 (by simp)).front 11 (by simp)).front 11 (by simp)).front 11 (by simp)).front 11 (by simp)).front 11 (by simp)⟩⟩
          · refine slice_step (n := 2) (by rfl) (N := 62) rfl (cs := #[.int .i64 2, .int .i64 (wrap64 ((wrap64 (a13 - 8)) + 1))]) (t := 3) ?hr ?_
            case hr => first | (go_simp; done) | (go_simp; rfl)
            intro g456 hg w457 hbox hb
            have HS_ : Aside0 (Sep (fps []) w [blk g16 #[.int .i64 a12, .int .i64 a13, .int .i64 a14, .int .i64 a15] 32, blk g19 #[.int .i64 0, .int .i64 0, .int .i64 0, .int .i64 0, .int .i64 0, .int .i64 0, .int .i64 0, .int .i64 0] 38, blk g73 #[.int .i64 a12, .int .i64 a13] 3, blk g150 #[.int .i64 24, .int .i64 a14, .int .i64 t147] 3, blk g176 #[.int .i64 t173, .int .i64 (wrap64 (a13 - 8)), .int .i64 (wrap64 ((wrap64 (a13 - 8)) + 1)), .int .i64 t342, .int .i64 t369, .int .i64 t353, .int .i64 0, .int .i64 0] 38, blk g339 #[.int .i64 (wrap64 (a13 - 8)), .int .i64 (wrap64 (a13 - 1))] 3, blk g350 #[.int .i64 a12, .int .i64 (wrap64 (a13 + 1))] 3, blk g360 #[.int .i64 3, .int .i64 t353] 3, blk g366 #[.int .i64 t363, .int .i64 4] 3, blk g456 #[.int .i64 2, .int .i64 (wrap64 ((wrap64 (a13 - 8)) + 1))] 3] w457) := ⟨HS.out.box hg hbox hb⟩
            clear HS hg hbox hb
            have HS := HS_
            clear HS_
            refine hK.out _ _ (⟨blk_cellv (HS.out.at4) 4 rfl, blk_cellv (HS.out.at0) 3 rfl, blk_cellv (HS.out.at4) 2 rfl⟩) (fun hHeld => ?_)
            clear hK K
            refine norm_ (a' := ?_) ?_ ?_
            rotate_left
            · show Act.put _ (some 62) _ = _
              simp only [Act.put, List.setIfInBounds_toArray, List.set_cons_zero, List.set_cons_succ, i64_w, i32_w]
              rfl
            refine one_ (i := 5) (N := some 58) #[true, true, true, true, true, true, false, true, true, true, false, false, false, false, false] rfl rfl (by kernel_rfl) (by decide) (fun K hK => ?_)
            refine slice_step (n := 2) (by rfl) (N := 58) rfl (cs := #[.int .i64 2, .int .i64 t394]) (t := 3) ?hr ?_
            case hr => first | (go_simp; done) | (go_simp; rfl)
            intro g459 hg w460 hbox hb
            have HS_ : Aside0 (Sep (fps []) w [blk g16 #[.int .i64 a12, .int .i64 a13, .int .i64 a14, .int .i64 a15] 32, blk g19 #[.int .i64 0, .int .i64 0, .int .i64 0, .int .i64 0, .int .i64 0, .int .i64 0, .int .i64 0, .int .i64 0] 38, blk g73 #[.int .i64 a12, .int .i64 a13] 3, blk g150 #[.int .i64 24, .int .i64 a14, .int .i64 t147] 3, blk g176 #[.int .i64 t173, .int .i64 (wrap64 (a13 - 8)), .int .i64 (wrap64 ((wrap64 (a13 - 8)) + 1)), .int .i64 t342, .int .i64 t369, .int .i64 t353, .int .i64 0, .int .i64 0] 38, blk g339 #[.int .i64 (wrap64 (a13 - 8)), .int .i64 (wrap64 (a13 - 1))] 3, blk g350 #[.int .i64 a12, .int .i64 (wrap64 (a13 + 1))] 3, blk g360 #[.int .i64 3, .int .i64 t353] 3, blk g366 #[.int .i64 t363, .int .i64 4] 3, blk g456 #[.int .i64 2, .int .i64 (wrap64 ((wrap64 (a13 - 8)) + 1))] 3, blk g459 #[.int .i64 2, .int .i64 t394] 3] w460) := ⟨HS.out.box hg hbox hb⟩
            clear HS hg hbox hb
            have HS := HS_
            clear HS_
            refine hK.out _ _ (⟨blk_cellv (HS.out.at4) 4 rfl, blk_cellv (HS.out.at0) 3 rfl, blk_cellv (HS.out.at4) 2 rfl⟩) (fun hHeld => ?_)
            clear hK K
            refine norm_ (a' := ?_) ?_ ?_
            rotate_left
            · show Act.put _ (some 58) _ = _
              simp only [Act.put, List.setIfInBounds_toArray, List.set_cons_zero, List.set_cons_succ, i64_w, i32_w]
              rfl
            refine one_ (i := 6) (N := some 59) #[true, true, true, true, true, true, true, true, true, true, false, false, false, false, false] rfl rfl (by kernel_rfl) (by decide) (fun K hK => ?_)
            refine goes_ Try.func42 (by kernel_rfl) rfl #[.slice (some ⟨g459, 0, none⟩) 2 2] (by rfl) rfl rfl (by (try simp only [List.map_toArray, List.map_cons, List.map_nil]); first | done | rfl) ?_
            refine (ratio_Mul.calls _ [2, t394] (some ⟨g459, 0, none⟩) 2 t400 _ ⟨C_of_blk (xs := [2, t394]) (HS.out.nth 10 rfl) (by simp)⟩ ⟨HS.out.begin (l := []) (rest := [blk g16 #[.int .i64 a12, .int .i64 a13, .int .i64 a14, .int .i64 a15] 32, blk g19 #[.int .i64 0, .int .i64 0, .int .i64 0, .int .i64 0, .int .i64 0, .int .i64 0, .int .i64 0, .int .i64 0] 38, blk g73 #[.int .i64 a12, .int .i64 a13] 3, blk g150 #[.int .i64 24, .int .i64 a14, .int .i64 t147] 3, blk g176 #[.int .i64 t173, .int .i64 (wrap64 (a13 - 8)), .int .i64 (wrap64 ((wrap64 (a13 - 8)) + 1)), .int .i64 t342, .int .i64 t369, .int .i64 t353, .int .i64 0, .int .i64 0] 38, blk g339 #[.int .i64 (wrap64 (a13 - 8)), .int .i64 (wrap64 (a13 - 1))] 3, blk g350 #[.int .i64 a12, .int .i64 (wrap64 (a13 + 1))] 3, blk g360 #[.int .i64 3, .int .i64 t353] 3, blk g366 #[.int .i64 t363, .int .i64 4] 3, blk g456 #[.int .i64 2, .int .i64 (wrap64 ((wrap64 (a13 - 8)) + 1))] 3, blk g459 #[.int .i64 2, .int .i64 t394] 3])⟩ HA401).mono ?_
            rintro e_ w463 ⟨rfl, hS⟩
            have HS_ : Aside0 (Sep (fps []) w [blk g16 #[.int .i64 a12, .int .i64 a13, .int .i64 a14, .int .i64 a15] 32, blk g19 #[.int .i64 0, .int .i64 0, .int .i64 0, .int .i64 0, .int .i64 0, .int .i64 0, .int .i64 0, .int .i64 0] 38, blk g73 #[.int .i64 a12, .int .i64 a13] 3, blk g150 #[.int .i64 24, .int .i64 a14, .int .i64 t147] 3, blk g176 #[.int .i64 t173, .int .i64 (wrap64 (a13 - 8)), .int .i64 (wrap64 ((wrap64 (a13 - 8)) + 1)), .int .i64 t342, .int .i64 t369, .int .i64 t353, .int .i64 0, .int .i64 0] 38, blk g339 #[.int .i64 (wrap64 (a13 - 8)), .int .i64 (wrap64 (a13 - 1))] 3, blk g350 #[.int .i64 a12, .int .i64 (wrap64 (a13 + 1))] 3, blk g360 #[.int .i64 3, .int .i64 t353] 3, blk g366 #[.int .i64 t363, .int .i64 4] 3, blk g456 #[.int .i64 2, .int .i64 (wrap64 ((wrap64 (a13 - 8)) + 1))] 3, blk g459 #[.int .i64 2, .int .i64 t394] 3] w463) := ⟨HS.out.call (l := []) (rest := [blk g16 #[.int .i64 a12, .int .i64 a13, .int .i64 a14, .int .i64 a15] 32, blk g19 #[.int .i64 0, .int .i64 0, .int .i64 0, .int .i64 0, .int .i64 0, .int .i64 0, .int .i64 0, .int .i64 0] 38, blk g73 #[.int .i64 a12, .int .i64 a13] 3, blk g150 #[.int .i64 24, .int .i64 a14, .int .i64 t147] 3, blk g176 #[.int .i64 t173, .int .i64 (wrap64 (a13 - 8)), .int .i64 (wrap64 ((wrap64 (a13 - 8)) + 1)), .int .i64 t342, .int .i64 t369, .int .i64 t353, .int .i64 0, .int .i64 0] 38, blk g339 #[.int .i64 (wrap64 (a13 - 8)), .int .i64 (wrap64 (a13 - 1))] 3, blk g350 #[.int .i64 a12, .int .i64 (wrap64 (a13 + 1))] 3, blk g360 #[.int .i64 3, .int .i64 t353] 3, blk g366 #[.int .i64 t363, .int .i64 4] 3, blk g456 #[.int .i64 2, .int .i64 (wrap64 ((wrap64 (a13 - 8)) + 1))] 3, blk g459 #[.int .i64 2, .int .i64 t394] 3]) hS⟩
            clear HS hS
            have HS := HS_
            clear HS_
            refine ⟨_, rfl, ?_⟩
            refine hK.out _ _ (⟨blk_cellv (HS.out.at4) 4 rfl, blk_cellv (HS.out.at0) 3 rfl, blk_cellv (HS.out.at4) 2 rfl⟩) (fun hHeld => ?_)
            clear hK K
            refine norm_ (a' := ?_) ?_ ?_
            rotate_left
            · show Act.put _ (some 59) _ = _
              simp only [Act.put, List.setIfInBounds_toArray, List.set_cons_zero, List.set_cons_succ, i64_w, i32_w]
              rfl
            refine one_ (i := 10) (N := some 63) #[true, true, true, true, true, true, true, true, true, true, true, false, false, false, false] rfl rfl (by kernel_rfl) (by decide) (fun K hK => ?_)
            refine goes_ Try.func42 (by kernel_rfl) rfl #[.slice (some ⟨g456, 0, none⟩) 2 2] (by rfl) rfl rfl (by (try simp only [List.map_toArray, List.map_cons, List.map_nil]); first | done | rfl) ?_
            refine (ratio_Mul.calls _ [2, wrap64 ((wrap64 (a13 - 8)) + 1)] (some ⟨g456, 0, none⟩) 2 t406 _ ⟨C_of_blk (xs := [2, wrap64 ((wrap64 (a13 - 8)) + 1)]) (HS.out.nth 9 rfl) (by simp)⟩ ⟨HS.out.begin (l := []) (rest := [blk g16 #[.int .i64 a12, .int .i64 a13, .int .i64 a14, .int .i64 a15] 32, blk g19 #[.int .i64 0, .int .i64 0, .int .i64 0, .int .i64 0, .int .i64 0, .int .i64 0, .int .i64 0, .int .i64 0] 38, blk g73 #[.int .i64 a12, .int .i64 a13] 3, blk g150 #[.int .i64 24, .int .i64 a14, .int .i64 t147] 3, blk g176 #[.int .i64 t173, .int .i64 (wrap64 (a13 - 8)), .int .i64 (wrap64 ((wrap64 (a13 - 8)) + 1)), .int .i64 t342, .int .i64 t369, .int .i64 t353, .int .i64 0, .int .i64 0] 38, blk g339 #[.int .i64 (wrap64 (a13 - 8)), .int .i64 (wrap64 (a13 - 1))] 3, blk g350 #[.int .i64 a12, .int .i64 (wrap64 (a13 + 1))] 3, blk g360 #[.int .i64 3, .int .i64 t353] 3, blk g366 #[.int .i64 t363, .int .i64 4] 3, blk g456 #[.int .i64 2, .int .i64 (wrap64 ((wrap64 (a13 - 8)) + 1))] 3, blk g459 #[.int .i64 2, .int .i64 t394] 3])⟩ HA407).mono ?_
            rintro e_ w465 ⟨rfl, hS⟩
            have HS_ : Aside0 (Sep (fps []) w [blk g16 #[.int .i64 a12, .int .i64 a13, .int .i64 a14, .int .i64 a15] 32, blk g19 #[.int .i64 0, .int .i64 0, .int .i64 0, .int .i64 0, .int .i64 0, .int .i64 0, .int .i64 0, .int .i64 0] 38, blk g73 #[.int .i64 a12, .int .i64 a13] 3, blk g150 #[.int .i64 24, .int .i64 a14, .int .i64 t147] 3, blk g176 #[.int .i64 t173, .int .i64 (wrap64 (a13 - 8)), .int .i64 (wrap64 ((wrap64 (a13 - 8)) + 1)), .int .i64 t342, .int .i64 t369, .int .i64 t353, .int .i64 0, .int .i64 0] 38, blk g339 #[.int .i64 (wrap64 (a13 - 8)), .int .i64 (wrap64 (a13 - 1))] 3, blk g350 #[.int .i64 a12, .int .i64 (wrap64 (a13 + 1))] 3, blk g360 #[.int .i64 3, .int .i64 t353] 3, blk g366 #[.int .i64 t363, .int .i64 4] 3, blk g456 #[.int .i64 2, .int .i64 (wrap64 ((wrap64 (a13 - 8)) + 1))] 3, blk g459 #[.int .i64 2, .int .i64 t394] 3] w465) := ⟨HS.out.call (l := []) (rest := [blk g16 #[.int .i64 a12, .int .i64 a13, .int .i64 a14, .int .i64 a15] 32, blk g19 #[.int .i64 0, .int .i64 0, .int .i64 0, .int .i64 0, .int .i64 0, .int .i64 0, .int .i64 0, .int .i64 0] 38, blk g73 #[.int .i64 a12, .int .i64 a13] 3, blk g150 #[.int .i64 24, .int .i64 a14, .int .i64 t147] 3, blk g176 #[.int .i64 t173, .int .i64 (wrap64 (a13 - 8)), .int .i64 (wrap64 ((wrap64 (a13 - 8)) + 1)), .int .i64 t342, .int .i64 t369, .int .i64 t353, .int .i64 0, .int .i64 0] 38, blk g339 #[.int .i64 (wrap64 (a13 - 8)), .int .i64 (wrap64 (a13 - 1))] 3, blk g350 #[.int .i64 a12, .int .i64 (wrap64 (a13 + 1))] 3, blk g360 #[.int .i64 3, .int .i64 t353] 3, blk g366 #[.int .i64 t363, .int .i64 4] 3, blk g456 #[.int .i64 2, .int .i64 (wrap64 ((wrap64 (a13 - 8)) + 1))] 3, blk g459 #[.int .i64 2, .int .i64 t394] 3]) hS⟩
            clear HS hS
            have HS := HS_
            clear HS_
            refine ⟨_, rfl, ?_⟩
            refine hK.out _ _ (⟨blk_cellv (HS.out.at4) 4 rfl, blk_cellv (HS.out.at0) 3 rfl, blk_cellv (HS.out.at4) 2 rfl⟩) (fun hHeld => ?_)
            clear hK K
            refine norm_ (a' := ?_) ?_ ?_
            rotate_left
            · show Act.put _ (some 63) _ = _
              simp only [Act.put, List.setIfInBounds_toArray, List.set_cons_zero, List.set_cons_succ, i64_w, i32_w]
              rfl
            refine one_ (i := 11) (N := some 64) #[true, true, true, true, true, true, true, true, true, true, true, true, false, false, false] rfl rfl (by kernel_rfl) (by decide) (fun K hK => ?_)
            refine slice_step (n := 2) (by rfl) (N := 64) rfl (cs := #[.int .i64 t400, .int .i64 t406]) (t := 3) ?hr ?_
            case hr => first | (go_simp; done) | (go_simp; rfl)
            intro g466 hg w467 hbox hb
            have HS_ : Aside0 (Sep (fps []) w [blk g16 #[.int .i64 a12, .int .i64 a13, .int .i64 a14, .int .i64 a15] 32, blk g19 #[.int .i64 0, .int .i64 0, .int .i64 0, .int .i64 0, .int .i64 0, .int .i64 0, .int .i64 0, .int .i64 0] 38, blk g73 #[.int .i64 a12, .int .i64 a13] 3, blk g150 #[.int .i64 24, .int .i64 a14, .int .i64 t147] 3, blk g176 #[.int .i64 t173, .int .i64 (wrap64 (a13 - 8)), .int .i64 (wrap64 ((wrap64 (a13 - 8)) + 1)), .int .i64 t342, .int .i64 t369, .int .i64 t353, .int .i64 0, .int .i64 0] 38, blk g339 #[.int .i64 (wrap64 (a13 - 8)), .int .i64 (wrap64 (a13 - 1))] 3, blk g350 #[.int .i64 a12, .int .i64 (wrap64 (a13 + 1))] 3, blk g360 #[.int .i64 3, .int .i64 t353] 3, blk g366 #[.int .i64 t363, .int .i64 4] 3, blk g456 #[.int .i64 2, .int .i64 (wrap64 ((wrap64 (a13 - 8)) + 1))] 3, blk g459 #[.int .i64 2, .int .i64 t394] 3, blk g466 #[.int .i64 t400, .int .i64 t406] 3] w467) := ⟨HS.out.box hg hbox hb⟩
            clear HS hg hbox hb
            have HS := HS_
            clear HS_
            refine hK.out _ _ (⟨blk_cellv (HS.out.at4) 4 rfl, blk_cellv (HS.out.at0) 3 rfl, blk_cellv (HS.out.at4) 2 rfl⟩) (fun hHeld => ?_)
            clear hK K
            refine norm_ (a' := ?_) ?_ ?_
            rotate_left
            · show Act.put _ (some 64) _ = _
              simp only [Act.put, List.setIfInBounds_toArray, List.set_cons_zero, List.set_cons_succ, i64_w, i32_w]
              rfl
            refine one_ (i := 12) (N := some 65) #[true, true, true, true, true, true, true, true, true, true, true, true, true, false, false] rfl rfl (by kernel_rfl) (by decide) (fun K hK => ?_)
            refine goes_ Try.func41 (by kernel_rfl) rfl #[.slice (some ⟨g466, 0, none⟩) 2 2] (by rfl) rfl rfl (by (try simp only [List.map_toArray, List.map_cons, List.map_nil]); first | done | rfl) ?_
            refine (ratio_Add.calls _ [t400, t406] (some ⟨g466, 0, none⟩) 2 t412 _ ⟨C_of_blk (xs := [t400, t406]) (HS.out.nth 11 rfl) (by simp)⟩ ⟨HS.out.begin (l := []) (rest := [blk g16 #[.int .i64 a12, .int .i64 a13, .int .i64 a14, .int .i64 a15] 32, blk g19 #[.int .i64 0, .int .i64 0, .int .i64 0, .int .i64 0, .int .i64 0, .int .i64 0, .int .i64 0, .int .i64 0] 38, blk g73 #[.int .i64 a12, .int .i64 a13] 3, blk g150 #[.int .i64 24, .int .i64 a14, .int .i64 t147] 3, blk g176 #[.int .i64 t173, .int .i64 (wrap64 (a13 - 8)), .int .i64 (wrap64 ((wrap64 (a13 - 8)) + 1)), .int .i64 t342, .int .i64 t369, .int .i64 t353, .int .i64 0, .int .i64 0] 38, blk g339 #[.int .i64 (wrap64 (a13 - 8)), .int .i64 (wrap64 (a13 - 1))] 3, blk g350 #[.int .i64 a12, .int .i64 (wrap64 (a13 + 1))] 3, blk g360 #[.int .i64 3, .int .i64 t353] 3, blk g366 #[.int .i64 t363, .int .i64 4] 3, blk g456 #[.int .i64 2, .int .i64 (wrap64 ((wrap64 (a13 - 8)) + 1))] 3, blk g459 #[.int .i64 2, .int .i64 t394] 3, blk g466 #[.int .i64 t400, .int .i64 t406] 3])⟩ HA413).mono ?_
            rintro e_ w470 ⟨rfl, hS⟩
            have HS_ : Aside0 (Sep (fps []) w [blk g16 #[.int .i64 a12, .int .i64 a13, .int .i64 a14, .int .i64 a15] 32, blk g19 #[.int .i64 0, .int .i64 0, .int .i64 0, .int .i64 0, .int .i64 0, .int .i64 0, .int .i64 0, .int .i64 0] 38, blk g73 #[.int .i64 a12, .int .i64 a13] 3, blk g150 #[.int .i64 24, .int .i64 a14, .int .i64 t147] 3, blk g176 #[.int .i64 t173, .int .i64 (wrap64 (a13 - 8)), .int .i64 (wrap64 ((wrap64 (a13 - 8)) + 1)), .int .i64 t342, .int .i64 t369, .int .i64 t353, .int .i64 0, .int .i64 0] 38, blk g339 #[.int .i64 (wrap64 (a13 - 8)), .int .i64 (wrap64 (a13 - 1))] 3, blk g350 #[.int .i64 a12, .int .i64 (wrap64 (a13 + 1))] 3, blk g360 #[.int .i64 3, .int .i64 t353] 3, blk g366 #[.int .i64 t363, .int .i64 4] 3, blk g456 #[.int .i64 2, .int .i64 (wrap64 ((wrap64 (a13 - 8)) + 1))] 3, blk g459 #[.int .i64 2, .int .i64 t394] 3, blk g466 #[.int .i64 t400, .int .i64 t406] 3] w470) := ⟨HS.out.call (l := []) (rest := [blk g16 #[.int .i64 a12, .int .i64 a13, .int .i64 a14, .int .i64 a15] 32, blk g19 #[.int .i64 0, .int .i64 0, .int .i64 0, .int .i64 0, .int .i64 0, .int .i64 0, .int .i64 0, .int .i64 0] 38, blk g73 #[.int .i64 a12, .int .i64 a13] 3, blk g150 #[.int .i64 24, .int .i64 a14, .int .i64 t147] 3, blk g176 #[.int .i64 t173, .int .i64 (wrap64 (a13 - 8)), .int .i64 (wrap64 ((wrap64 (a13 - 8)) + 1)), .int .i64 t342, .int .i64 t369, .int .i64 t353, .int .i64 0, .int .i64 0] 38, blk g339 #[.int .i64 (wrap64 (a13 - 8)), .int .i64 (wrap64 (a13 - 1))] 3, blk g350 #[.int .i64 a12, .int .i64 (wrap64 (a13 + 1))] 3, blk g360 #[.int .i64 3, .int .i64 t353] 3, blk g366 #[.int .i64 t363, .int .i64 4] 3, blk g456 #[.int .i64 2, .int .i64 (wrap64 ((wrap64 (a13 - 8)) + 1))] 3, blk g459 #[.int .i64 2, .int .i64 t394] 3, blk g466 #[.int .i64 t400, .int .i64 t406] 3]) hS⟩
            clear HS hS
            have HS := HS_
            clear HS_
            refine ⟨_, rfl, ?_⟩
            refine hK.out _ _ (⟨blk_cellv (HS.out.at4) 4 rfl, blk_cellv (HS.out.at0) 3 rfl, blk_cellv (HS.out.at4) 2 rfl⟩) (fun hHeld => ?_)
            clear hK K
            refine norm_ (a' := ?_) ?_ ?_
            rotate_left
            · show Act.put _ (some 65) _ = _
              simp only [Act.put, List.setIfInBounds_toArray, List.set_cons_zero, List.set_cons_succ, i64_w, i32_w]
              rfl
            refine pure_ (i := 13) (N := some 66) (v := ?_) (a' := ?_) #[true, true, true, true, true, true, true, true, true, true, true, true, true, true, false] rfl rfl (by kernel_rfl) (fun _ _ _ h => h) (Or.inl ⟨by rfl, ?_⟩) ?_ ?_
            rotate_left
            · intro w'
              go_simp
              with_reducible rfl
            rotate_left
            · simp only [Act.put, List.setIfInBounds_toArray, List.set_cons_zero, List.set_cons_succ, i64_w, i32_w]
              rfl
            refine one_ (i := 14) (N := none) #[true, true, true, true, true, true, true, true, true, true, true, true, true, true, true] rfl rfl (by kernel_rfl) (by decide) (fun K hK => ?_)
            have hc472 := blk_cellv (v := .int .i64 0) (HS.out.at4) 6 rfl
            have hz473 := blk_fz (HS.out.at4) 6
            refine store_step (w1 := (World.setCell w470 ⟨g176, 6, none⟩ (.int .i64 t412))) (by rfl) rfl ?hr ?_
            case hr => first | (go_simp; done) | (go_simp; rfl)
            clear hc472 hz473
            intro w471 hst
            have hq0 : Sep (fps []) w [blk g16 #[.int .i64 a12, .int .i64 a13, .int .i64 a14, .int .i64 a15] 32, blk g19 #[.int .i64 0, .int .i64 0, .int .i64 0, .int .i64 0, .int .i64 0, .int .i64 0, .int .i64 0, .int .i64 0] 38, blk g73 #[.int .i64 a12, .int .i64 a13] 3, blk g150 #[.int .i64 24, .int .i64 a14, .int .i64 t147] 3, blk g176 #[.int .i64 t173, .int .i64 (wrap64 (a13 - 8)), .int .i64 (wrap64 ((wrap64 (a13 - 8)) + 1)), .int .i64 t342, .int .i64 t369, .int .i64 t353, .int .i64 t412, .int .i64 0] 38, blk g339 #[.int .i64 (wrap64 (a13 - 8)), .int .i64 (wrap64 (a13 - 1))] 3, blk g350 #[.int .i64 a12, .int .i64 (wrap64 (a13 + 1))] 3, blk g360 #[.int .i64 3, .int .i64 t353] 3, blk g366 #[.int .i64 t363, .int .i64 4] 3, blk g456 #[.int .i64 2, .int .i64 (wrap64 ((wrap64 (a13 - 8)) + 1))] 3, blk g459 #[.int .i64 2, .int .i64 t394] 3, blk g466 #[.int .i64 t400, .int .i64 t406] 3] (World.setCell w470 ⟨g176, 6, none⟩ (.int .i64 t412)) := (HS.out).set1 (l1 := [blk g16 #[.int .i64 a12, .int .i64 a13, .int .i64 a14, .int .i64 a15] 32, blk g19 #[.int .i64 0, .int .i64 0, .int .i64 0, .int .i64 0, .int .i64 0, .int .i64 0, .int .i64 0, .int .i64 0] 38, blk g73 #[.int .i64 a12, .int .i64 a13] 3, blk g150 #[.int .i64 24, .int .i64 a14, .int .i64 t147] 3]) (l2 := [blk g339 #[.int .i64 (wrap64 (a13 - 8)), .int .i64 (wrap64 (a13 - 1))] 3, blk g350 #[.int .i64 a12, .int .i64 (wrap64 (a13 + 1))] 3, blk g360 #[.int .i64 3, .int .i64 t353] 3, blk g366 #[.int .i64 t363, .int .i64 4] 3, blk g456 #[.int .i64 2, .int .i64 (wrap64 ((wrap64 (a13 - 8)) + 1))] 3, blk g459 #[.int .i64 2, .int .i64 t394] 3, blk g466 #[.int .i64 t400, .int .i64 t406] 3]) 6 (.int .i64 t412)
            have HS_ : Aside0 (Sep (fps []) w [blk g16 #[.int .i64 a12, .int .i64 a13, .int .i64 a14, .int .i64 a15] 32, blk g19 #[.int .i64 0, .int .i64 0, .int .i64 0, .int .i64 0, .int .i64 0, .int .i64 0, .int .i64 0, .int .i64 0] 38, blk g73 #[.int .i64 a12, .int .i64 a13] 3, blk g150 #[.int .i64 24, .int .i64 a14, .int .i64 t147] 3, blk g176 #[.int .i64 t173, .int .i64 (wrap64 (a13 - 8)), .int .i64 (wrap64 ((wrap64 (a13 - 8)) + 1)), .int .i64 t342, .int .i64 t369, .int .i64 t353, .int .i64 t412, .int .i64 0] 38, blk g339 #[.int .i64 (wrap64 (a13 - 8)), .int .i64 (wrap64 (a13 - 1))] 3, blk g350 #[.int .i64 a12, .int .i64 (wrap64 (a13 + 1))] 3, blk g360 #[.int .i64 3, .int .i64 t353] 3, blk g366 #[.int .i64 t363, .int .i64 4] 3, blk g456 #[.int .i64 2, .int .i64 (wrap64 ((wrap64 (a13 - 8)) + 1))] 3, blk g459 #[.int .i64 2, .int .i64 t394] 3, blk g466 #[.int .i64 t400, .int .i64 t406] 3] w471) := ⟨by rw [hst]; exact hq0⟩
            clear hq0
            clear HS hst
            have HS := HS_
            clear HS_
            refine hK.out _ _ (⟨blk_cellv (HS.out.at4) 4 rfl, blk_cellv (HS.out.at0) 3 rfl, blk_cellv (HS.out.at4) 2 rfl⟩) (fun hHeld => ?_)
            clear hK K
            refine done_ (by kernel_rfl) ?_
            go_wp2_with fail
            go_meet
            case rel => exact ⟨g459, g456, g466, ⟨((((((((((((HS.out).front 11 (by simp)).front 10 (by simp)).front 11 (by simp)).front 11 (by simp)).front 11 (by simp)).front 11 (by simp)).front 11 (by simp)).front 11 (by simp)).front 11 (by simp)).front 11 (by simp)).front 11 (by simp)).front 11 (by simp)⟩⟩
        · refine slice_step (n := 2) (by rfl) (N := 62) rfl (cs := #[.int .i64 2, .int .i64 (wrap64 ((wrap64 (a13 - 8)) + 1))]) (t := 3) ?hr ?_
          case hr => first | (go_simp; done) | (go_simp; rfl)
          intro g474 hg w475 hbox hb
          have HS_ : Aside0 (Sep (fps []) w [blk g16 #[.int .i64 a12, .int .i64 a13, .int .i64 a14, .int .i64 a15] 32, blk g19 #[.int .i64 0, .int .i64 0, .int .i64 0, .int .i64 0, .int .i64 0, .int .i64 0, .int .i64 0, .int .i64 0] 38, blk g73 #[.int .i64 a12, .int .i64 a13] 3, blk g150 #[.int .i64 24, .int .i64 a14, .int .i64 t147] 3, blk g176 #[.int .i64 t173, .int .i64 (wrap64 (a13 - 8)), .int .i64 (wrap64 ((wrap64 (a13 - 8)) + 1)), .int .i64 t342, .int .i64 t369, .int .i64 t353, .int .i64 0, .int .i64 0] 38, blk g339 #[.int .i64 (wrap64 (a13 - 8)), .int .i64 (wrap64 (a13 - 1))] 3, blk g350 #[.int .i64 a12, .int .i64 (wrap64 (a13 + 1))] 3, blk g360 #[.int .i64 3, .int .i64 t353] 3, blk g366 #[.int .i64 t363, .int .i64 4] 3, blk g474 #[.int .i64 2, .int .i64 (wrap64 ((wrap64 (a13 - 8)) + 1))] 3] w475) := ⟨HS.out.box hg hbox hb⟩
          clear HS hg hbox hb
          have HS := HS_
          clear HS_
          refine hK.out _ _ (⟨blk_cellv (HS.out.at4) 4 rfl, blk_cellv (HS.out.at0) 3 rfl, blk_cellv (HS.out.at4) 2 rfl⟩) (fun hHeld => ?_)
          clear hK K
          refine norm_ (a' := ?_) ?_ ?_
          rotate_left
          · show Act.put _ (some 62) _ = _
            simp only [Act.put, List.setIfInBounds_toArray, List.set_cons_zero, List.set_cons_succ, i64_w, i32_w]
            rfl
          refine one_ (i := 4) (N := some 57) #[true, true, true, true, true, false, false, true, true, true, false, false, false, false, false] rfl rfl (by kernel_rfl) (by decide) (fun K hK => ?_)
          refine goes_ Try.func45 (by kernel_rfl) rfl #[.int .i64 t369, .int .i64 a15] (by rfl) rfl rfl (by (try simp only [List.map_toArray, List.map_cons, List.map_nil]); first | done | rfl) ?_
          refine (ratio_Up.calls t369 a15 t394 _ ⟨HS.out.begin (l := []) (rest := [blk g16 #[.int .i64 a12, .int .i64 a13, .int .i64 a14, .int .i64 a15] 32, blk g19 #[.int .i64 0, .int .i64 0, .int .i64 0, .int .i64 0, .int .i64 0, .int .i64 0, .int .i64 0, .int .i64 0] 38, blk g73 #[.int .i64 a12, .int .i64 a13] 3, blk g150 #[.int .i64 24, .int .i64 a14, .int .i64 t147] 3, blk g176 #[.int .i64 t173, .int .i64 (wrap64 (a13 - 8)), .int .i64 (wrap64 ((wrap64 (a13 - 8)) + 1)), .int .i64 t342, .int .i64 t369, .int .i64 t353, .int .i64 0, .int .i64 0] 38, blk g339 #[.int .i64 (wrap64 (a13 - 8)), .int .i64 (wrap64 (a13 - 1))] 3, blk g350 #[.int .i64 a12, .int .i64 (wrap64 (a13 + 1))] 3, blk g360 #[.int .i64 3, .int .i64 t353] 3, blk g366 #[.int .i64 t363, .int .i64 4] 3, blk g474 #[.int .i64 2, .int .i64 (wrap64 ((wrap64 (a13 - 8)) + 1))] 3])⟩ HA395).mono ?_
          rintro e_ w478 ⟨rfl, hS⟩
          have HS_ : Aside0 (Sep (fps []) w [blk g16 #[.int .i64 a12, .int .i64 a13, .int .i64 a14, .int .i64 a15] 32, blk g19 #[.int .i64 0, .int .i64 0, .int .i64 0, .int .i64 0, .int .i64 0, .int .i64 0, .int .i64 0, .int .i64 0] 38, blk g73 #[.int .i64 a12, .int .i64 a13] 3, blk g150 #[.int .i64 24, .int .i64 a14, .int .i64 t147] 3, blk g176 #[.int .i64 t173, .int .i64 (wrap64 (a13 - 8)), .int .i64 (wrap64 ((wrap64 (a13 - 8)) + 1)), .int .i64 t342, .int .i64 t369, .int .i64 t353, .int .i64 0, .int .i64 0] 38, blk g339 #[.int .i64 (wrap64 (a13 - 8)), .int .i64 (wrap64 (a13 - 1))] 3, blk g350 #[.int .i64 a12, .int .i64 (wrap64 (a13 + 1))] 3, blk g360 #[.int .i64 3, .int .i64 t353] 3, blk g366 #[.int .i64 t363, .int .i64 4] 3, blk g474 #[.int .i64 2, .int .i64 (wrap64 ((wrap64 (a13 - 8)) + 1))] 3] w478) := ⟨HS.out.call (l := []) (rest := [blk g16 #[.int .i64 a12, .int .i64 a13, .int .i64 a14, .int .i64 a15] 32, blk g19 #[.int .i64 0, .int .i64 0, .int .i64 0, .int .i64 0, .int .i64 0, .int .i64 0, .int .i64 0, .int .i64 0] 38, blk g73 #[.int .i64 a12, .int .i64 a13] 3, blk g150 #[.int .i64 24, .int .i64 a14, .int .i64 t147] 3, blk g176 #[.int .i64 t173, .int .i64 (wrap64 (a13 - 8)), .int .i64 (wrap64 ((wrap64 (a13 - 8)) + 1)), .int .i64 t342, .int .i64 t369, .int .i64 t353, .int .i64 0, .int .i64 0] 38, blk g339 #[.int .i64 (wrap64 (a13 - 8)), .int .i64 (wrap64 (a13 - 1))] 3, blk g350 #[.int .i64 a12, .int .i64 (wrap64 (a13 + 1))] 3, blk g360 #[.int .i64 3, .int .i64 t353] 3, blk g366 #[.int .i64 t363, .int .i64 4] 3, blk g474 #[.int .i64 2, .int .i64 (wrap64 ((wrap64 (a13 - 8)) + 1))] 3]) hS⟩
          clear HS hS
          have HS := HS_
          clear HS_
          refine ⟨_, rfl, ?_⟩
          refine hK.out _ _ (⟨blk_cellv (HS.out.at4) 4 rfl, blk_cellv (HS.out.at0) 3 rfl, blk_cellv (HS.out.at4) 2 rfl⟩) (fun hHeld => ?_)
          clear hK K
          refine norm_ (a' := ?_) ?_ ?_
          rotate_left
          · show Act.put _ (some 57) _ = _
            simp only [Act.put, List.setIfInBounds_toArray, List.set_cons_zero, List.set_cons_succ, i64_w, i32_w]
            rfl
          refine one_ (i := 5) (N := some 58) #[true, true, true, true, true, true, false, true, true, true, false, false, false, false, false] rfl rfl (by kernel_rfl) (by decide) (fun K hK => ?_)
          refine slice_step (n := 2) (by rfl) (N := 58) rfl (cs := #[.int .i64 2, .int .i64 t394]) (t := 3) ?hr ?_
          case hr => first | (go_simp; done) | (go_simp; rfl)
          intro g479 hg w480 hbox hb
          have HS_ : Aside0 (Sep (fps []) w [blk g16 #[.int .i64 a12, .int .i64 a13, .int .i64 a14, .int .i64 a15] 32, blk g19 #[.int .i64 0, .int .i64 0, .int .i64 0, .int .i64 0, .int .i64 0, .int .i64 0, .int .i64 0, .int .i64 0] 38, blk g73 #[.int .i64 a12, .int .i64 a13] 3, blk g150 #[.int .i64 24, .int .i64 a14, .int .i64 t147] 3, blk g176 #[.int .i64 t173, .int .i64 (wrap64 (a13 - 8)), .int .i64 (wrap64 ((wrap64 (a13 - 8)) + 1)), .int .i64 t342, .int .i64 t369, .int .i64 t353, .int .i64 0, .int .i64 0] 38, blk g339 #[.int .i64 (wrap64 (a13 - 8)), .int .i64 (wrap64 (a13 - 1))] 3, blk g350 #[.int .i64 a12, .int .i64 (wrap64 (a13 + 1))] 3, blk g360 #[.int .i64 3, .int .i64 t353] 3, blk g366 #[.int .i64 t363, .int .i64 4] 3, blk g474 #[.int .i64 2, .int .i64 (wrap64 ((wrap64 (a13 - 8)) + 1))] 3, blk g479 #[.int .i64 2, .int .i64 t394] 3] w480) := ⟨HS.out.box hg hbox hb⟩
          clear HS hg hbox hb
          have HS := HS_
          clear HS_
          refine hK.out _ _ (⟨blk_cellv (HS.out.at4) 4 rfl, blk_cellv (HS.out.at0) 3 rfl, blk_cellv (HS.out.at4) 2 rfl⟩) (fun hHeld => ?_)
          clear hK K
          refine norm_ (a' := ?_) ?_ ?_
          rotate_left
          · show Act.put _ (some 58) _ = _
            simp only [Act.put, List.setIfInBounds_toArray, List.set_cons_zero, List.set_cons_succ, i64_w, i32_w]
            rfl
          refine one_ (i := 6) (N := some 59) #[true, true, true, true, true, true, true, true, true, true, false, false, false, false, false] rfl rfl (by kernel_rfl) (by decide) (fun K hK => ?_)
          refine goes_ Try.func42 (by kernel_rfl) rfl #[.slice (some ⟨g479, 0, none⟩) 2 2] (by rfl) rfl rfl (by (try simp only [List.map_toArray, List.map_cons, List.map_nil]); first | done | rfl) ?_
          refine (ratio_Mul.calls _ [2, t394] (some ⟨g479, 0, none⟩) 2 t400 _ ⟨C_of_blk (xs := [2, t394]) (HS.out.nth 10 rfl) (by simp)⟩ ⟨HS.out.begin (l := []) (rest := [blk g16 #[.int .i64 a12, .int .i64 a13, .int .i64 a14, .int .i64 a15] 32, blk g19 #[.int .i64 0, .int .i64 0, .int .i64 0, .int .i64 0, .int .i64 0, .int .i64 0, .int .i64 0, .int .i64 0] 38, blk g73 #[.int .i64 a12, .int .i64 a13] 3, blk g150 #[.int .i64 24, .int .i64 a14, .int .i64 t147] 3, blk g176 #[.int .i64 t173, .int .i64 (wrap64 (a13 - 8)), .int .i64 (wrap64 ((wrap64 (a13 - 8)) + 1)), .int .i64 t342, .int .i64 t369, .int .i64 t353, .int .i64 0, .int .i64 0] 38, blk g339 #[.int .i64 (wrap64 (a13 - 8)), .int .i64 (wrap64 (a13 - 1))] 3, blk g350 #[.int .i64 a12, .int .i64 (wrap64 (a13 + 1))] 3, blk g360 #[.int .i64 3, .int .i64 t353] 3, blk g366 #[.int .i64 t363, .int .i64 4] 3, blk g474 #[.int .i64 2, .int .i64 (wrap64 ((wrap64 (a13 - 8)) + 1))] 3, blk g479 #[.int .i64 2, .int .i64 t394] 3])⟩ HA401).mono ?_
          rintro e_ w483 ⟨rfl, hS⟩
          have HS_ : Aside0 (Sep (fps []) w [blk g16 #[.int .i64 a12, .int .i64 a13, .int .i64 a14, .int .i64 a15] 32, blk g19 #[.int .i64 0, .int .i64 0, .int .i64 0, .int .i64 0, .int .i64 0, .int .i64 0, .int .i64 0, .int .i64 0] 38, blk g73 #[.int .i64 a12, .int .i64 a13] 3, blk g150 #[.int .i64 24, .int .i64 a14, .int .i64 t147] 3, blk g176 #[.int .i64 t173, .int .i64 (wrap64 (a13 - 8)), .int .i64 (wrap64 ((wrap64 (a13 - 8)) + 1)), .int .i64 t342, .int .i64 t369, .int .i64 t353, .int .i64 0, .int .i64 0] 38, blk g339 #[.int .i64 (wrap64 (a13 - 8)), .int .i64 (wrap64 (a13 - 1))] 3, blk g350 #[.int .i64 a12, .int .i64 (wrap64 (a13 + 1))] 3, blk g360 #[.int .i64 3, .int .i64 t353] 3, blk g366 #[.int .i64 t363, .int .i64 4] 3, blk g474 #[.int .i64 2, .int .i64 (wrap64 ((wrap64 (a13 - 8)) + 1))] 3, blk g479 #[.int .i64 2, .int .i64 t394] 3] w483) := ⟨HS.out.call (l := []) (rest := [blk g16 #[.int .i64 a12, .int .i64 a13, .int .i64 a14, .int .i64 a15] 32, blk g19 #[.int .i64 0, .int .i64 0, .int .i64 0, .int .i64 0, .int .i64 0, .int .i64 0, .int .i64 0, .int .i64 0] 38, blk g73 #[.int .i64 a12, .int .i64 a13] 3, blk g150 #[.int .i64 24, .int .i64 a14, .int .i64 t147] 3, blk g176 #[.int .i64 t173, .int .i64 (wrap64 (a13 - 8)), .int .i64 (wrap64 ((wrap64 (a13 - 8)) + 1)), .int .i64 t342, .int .i64 t369, .int .i64 t353, .int .i64 0, .int .i64 0] 38, blk g339 #[.int .i64 (wrap64 (a13 - 8)), .int .i64 (wrap64 (a13 - 1))] 3, blk g350 #[.int .i64 a12, .int .i64 (wrap64 (a13 + 1))] 3, blk g360 #[.int .i64 3, .int .i64 t353] 3, blk g366 #[.int .i64 t363, .int .i64 4] 3, blk g474 #[.int .i64 2, .int .i64 (wrap64 ((wrap64 (a13 - 8)) + 1))] 3, blk g479 #[.int .i64 2, .int .i64 t394] 3]) hS⟩
          clear HS hS
          have HS := HS_
          clear HS_
          refine ⟨_, rfl, ?_⟩
          refine hK.out _ _ (⟨blk_cellv (HS.out.at4) 4 rfl, blk_cellv (HS.out.at0) 3 rfl, blk_cellv (HS.out.at4) 2 rfl⟩) (fun hHeld => ?_)
          clear hK K
          refine norm_ (a' := ?_) ?_ ?_
          rotate_left
          · show Act.put _ (some 59) _ = _
            simp only [Act.put, List.setIfInBounds_toArray, List.set_cons_zero, List.set_cons_succ, i64_w, i32_w]
            rfl
          refine one_ (i := 10) (N := some 63) #[true, true, true, true, true, true, true, true, true, true, true, false, false, false, false] rfl rfl (by kernel_rfl) (by decide) (fun K hK => ?_)
          refine goes_ Try.func42 (by kernel_rfl) rfl #[.slice (some ⟨g474, 0, none⟩) 2 2] (by rfl) rfl rfl (by (try simp only [List.map_toArray, List.map_cons, List.map_nil]); first | done | rfl) ?_
          refine (ratio_Mul.calls _ [2, wrap64 ((wrap64 (a13 - 8)) + 1)] (some ⟨g474, 0, none⟩) 2 t406 _ ⟨C_of_blk (xs := [2, wrap64 ((wrap64 (a13 - 8)) + 1)]) (HS.out.nth 9 rfl) (by simp)⟩ ⟨HS.out.begin (l := []) (rest := [blk g16 #[.int .i64 a12, .int .i64 a13, .int .i64 a14, .int .i64 a15] 32, blk g19 #[.int .i64 0, .int .i64 0, .int .i64 0, .int .i64 0, .int .i64 0, .int .i64 0, .int .i64 0, .int .i64 0] 38, blk g73 #[.int .i64 a12, .int .i64 a13] 3, blk g150 #[.int .i64 24, .int .i64 a14, .int .i64 t147] 3, blk g176 #[.int .i64 t173, .int .i64 (wrap64 (a13 - 8)), .int .i64 (wrap64 ((wrap64 (a13 - 8)) + 1)), .int .i64 t342, .int .i64 t369, .int .i64 t353, .int .i64 0, .int .i64 0] 38, blk g339 #[.int .i64 (wrap64 (a13 - 8)), .int .i64 (wrap64 (a13 - 1))] 3, blk g350 #[.int .i64 a12, .int .i64 (wrap64 (a13 + 1))] 3, blk g360 #[.int .i64 3, .int .i64 t353] 3, blk g366 #[.int .i64 t363, .int .i64 4] 3, blk g474 #[.int .i64 2, .int .i64 (wrap64 ((wrap64 (a13 - 8)) + 1))] 3, blk g479 #[.int .i64 2, .int .i64 t394] 3])⟩ HA407).mono ?_
          rintro e_ w485 ⟨rfl, hS⟩
          have HS_ : Aside0 (Sep (fps []) w [blk g16 #[.int .i64 a12, .int .i64 a13, .int .i64 a14, .int .i64 a15] 32, blk g19 #[.int .i64 0, .int .i64 0, .int .i64 0, .int .i64 0, .int .i64 0, .int .i64 0, .int .i64 0, .int .i64 0] 38, blk g73 #[.int .i64 a12, .int .i64 a13] 3, blk g150 #[.int .i64 24, .int .i64 a14, .int .i64 t147] 3, blk g176 #[.int .i64 t173, .int .i64 (wrap64 (a13 - 8)), .int .i64 (wrap64 ((wrap64 (a13 - 8)) + 1)), .int .i64 t342, .int .i64 t369, .int .i64 t353, .int .i64 0, .int .i64 0] 38, blk g339 #[.int .i64 (wrap64 (a13 - 8)), .int .i64 (wrap64 (a13 - 1))] 3, blk g350 #[.int .i64 a12, .int .i64 (wrap64 (a13 + 1))] 3, blk g360 #[.int .i64 3, .int .i64 t353] 3, blk g366 #[.int .i64 t363, .int .i64 4] 3, blk g474 #[.int .i64 2, .int .i64 (wrap64 ((wrap64 (a13 - 8)) + 1))] 3, blk g479 #[.int .i64 2, .int .i64 t394] 3] w485) := ⟨HS.out.call (l := []) (rest := [blk g16 #[.int .i64 a12, .int .i64 a13, .int .i64 a14, .int .i64 a15] 32, blk g19 #[.int .i64 0, .int .i64 0, .int .i64 0, .int .i64 0, .int .i64 0, .int .i64 0, .int .i64 0, .int .i64 0] 38, blk g73 #[.int .i64 a12, .int .i64 a13] 3, blk g150 #[.int .i64 24, .int .i64 a14, .int .i64 t147] 3, blk g176 #[.int .i64 t173, .int .i64 (wrap64 (a13 - 8)), .int .i64 (wrap64 ((wrap64 (a13 - 8)) + 1)), .int .i64 t342, .int .i64 t369, .int .i64 t353, .int .i64 0, .int .i64 0] 38, blk g339 #[.int .i64 (wrap64 (a13 - 8)), .int .i64 (wrap64 (a13 - 1))] 3, blk g350 #[.int .i64 a12, .int .i64 (wrap64 (a13 + 1))] 3, blk g360 #[.int .i64 3, .int .i64 t353] 3, blk g366 #[.int .i64 t363, .int .i64 4] 3, blk g474 #[.int .i64 2, .int .i64 (wrap64 ((wrap64 (a13 - 8)) + 1))] 3, blk g479 #[.int .i64 2, .int .i64 t394] 3]) hS⟩
          clear HS hS
          have HS := HS_
          clear HS_
          refine ⟨_, rfl, ?_⟩
          refine hK.out _ _ (⟨blk_cellv (HS.out.at4) 4 rfl, blk_cellv (HS.out.at0) 3 rfl, blk_cellv (HS.out.at4) 2 rfl⟩) (fun hHeld => ?_)
          clear hK K
          refine norm_ (a' := ?_) ?_ ?_
          rotate_left
          · show Act.put _ (some 63) _ = _
            simp only [Act.put, List.setIfInBounds_toArray, List.set_cons_zero, List.set_cons_succ, i64_w, i32_w]
            rfl
          refine one_ (i := 11) (N := some 64) #[true, true, true, true, true, true, true, true, true, true, true, true, false, false, false] rfl rfl (by kernel_rfl) (by decide) (fun K hK => ?_)
          refine slice_step (n := 2) (by rfl) (N := 64) rfl (cs := #[.int .i64 t400, .int .i64 t406]) (t := 3) ?hr ?_
          case hr => first | (go_simp; done) | (go_simp; rfl)
          intro g486 hg w487 hbox hb
          have HS_ : Aside0 (Sep (fps []) w [blk g16 #[.int .i64 a12, .int .i64 a13, .int .i64 a14, .int .i64 a15] 32, blk g19 #[.int .i64 0, .int .i64 0, .int .i64 0, .int .i64 0, .int .i64 0, .int .i64 0, .int .i64 0, .int .i64 0] 38, blk g73 #[.int .i64 a12, .int .i64 a13] 3, blk g150 #[.int .i64 24, .int .i64 a14, .int .i64 t147] 3, blk g176 #[.int .i64 t173, .int .i64 (wrap64 (a13 - 8)), .int .i64 (wrap64 ((wrap64 (a13 - 8)) + 1)), .int .i64 t342, .int .i64 t369, .int .i64 t353, .int .i64 0, .int .i64 0] 38, blk g339 #[.int .i64 (wrap64 (a13 - 8)), .int .i64 (wrap64 (a13 - 1))] 3, blk g350 #[.int .i64 a12, .int .i64 (wrap64 (a13 + 1))] 3, blk g360 #[.int .i64 3, .int .i64 t353] 3, blk g366 #[.int .i64 t363, .int .i64 4] 3, blk g474 #[.int .i64 2, .int .i64 (wrap64 ((wrap64 (a13 - 8)) + 1))] 3, blk g479 #[.int .i64 2, .int .i64 t394] 3, blk g486 #[.int .i64 t400, .int .i64 t406] 3] w487) := ⟨HS.out.box hg hbox hb⟩
          clear HS hg hbox hb
          have HS := HS_
          clear HS_
          refine hK.out _ _ (⟨blk_cellv (HS.out.at4) 4 rfl, blk_cellv (HS.out.at0) 3 rfl, blk_cellv (HS.out.at4) 2 rfl⟩) (fun hHeld => ?_)
          clear hK K
          refine norm_ (a' := ?_) ?_ ?_
          rotate_left
          · show Act.put _ (some 64) _ = _
            simp only [Act.put, List.setIfInBounds_toArray, List.set_cons_zero, List.set_cons_succ, i64_w, i32_w]
            rfl
          refine one_ (i := 12) (N := some 65) #[true, true, true, true, true, true, true, true, true, true, true, true, true, false, false] rfl rfl (by kernel_rfl) (by decide) (fun K hK => ?_)
          refine goes_ Try.func41 (by kernel_rfl) rfl #[.slice (some ⟨g486, 0, none⟩) 2 2] (by rfl) rfl rfl (by (try simp only [List.map_toArray, List.map_cons, List.map_nil]); first | done | rfl) ?_
          refine (ratio_Add.calls _ [t400, t406] (some ⟨g486, 0, none⟩) 2 t412 _ ⟨C_of_blk (xs := [t400, t406]) (HS.out.nth 11 rfl) (by simp)⟩ ⟨HS.out.begin (l := []) (rest := [blk g16 #[.int .i64 a12, .int .i64 a13, .int .i64 a14, .int .i64 a15] 32, blk g19 #[.int .i64 0, .int .i64 0, .int .i64 0, .int .i64 0, .int .i64 0, .int .i64 0, .int .i64 0, .int .i64 0] 38, blk g73 #[.int .i64 a12, .int .i64 a13] 3, blk g150 #[.int .i64 24, .int .i64 a14, .int .i64 t147] 3, blk g176 #[.int .i64 t173, .int .i64 (wrap64 (a13 - 8)), .int .i64 (wrap64 ((wrap64 (a13 - 8)) + 1)), .int .i64 t342, .int .i64 t369, .int .i64 t353, .int .i64 0, .int .i64 0] 38, blk g339 #[.int .i64 (wrap64 (a13 - 8)), .int .i64 (wrap64 (a13 - 1))] 3, blk g350 #[.int .i64 a12, .int .i64 (wrap64 (a13 + 1))] 3, blk g360 #[.int .i64 3, .int .i64 t353] 3, blk g366 #[.int .i64 t363, .int .i64 4] 3, blk g474 #[.int .i64 2, .int .i64 (wrap64 ((wrap64 (a13 - 8)) + 1))] 3, blk g479 #[.int .i64 2, .int .i64 t394] 3, blk g486 #[.int .i64 t400, .int .i64 t406] 3])⟩ HA413).mono ?_
          rintro e_ w490 ⟨rfl, hS⟩
          have HS_ : Aside0 (Sep (fps []) w [blk g16 #[.int .i64 a12, .int .i64 a13, .int .i64 a14, .int .i64 a15] 32, blk g19 #[.int .i64 0, .int .i64 0, .int .i64 0, .int .i64 0, .int .i64 0, .int .i64 0, .int .i64 0, .int .i64 0] 38, blk g73 #[.int .i64 a12, .int .i64 a13] 3, blk g150 #[.int .i64 24, .int .i64 a14, .int .i64 t147] 3, blk g176 #[.int .i64 t173, .int .i64 (wrap64 (a13 - 8)), .int .i64 (wrap64 ((wrap64 (a13 - 8)) + 1)), .int .i64 t342, .int .i64 t369, .int .i64 t353, .int .i64 0, .int .i64 0] 38, blk g339 #[.int .i64 (wrap64 (a13 - 8)), .int .i64 (wrap64 (a13 - 1))] 3, blk g350 #[.int .i64 a12, .int .i64 (wrap64 (a13 + 1))] 3, blk g360 #[.int .i64 3, .int .i64 t353] 3, blk g366 #[.int .i64 t363, .int .i64 4] 3, blk g474 #[.int .i64 2, .int .i64 (wrap64 ((wrap64 (a13 - 8)) + 1))] 3, blk g479 #[.int .i64 2, .int .i64 t394] 3, blk g486 #[.int .i64 t400, .int .i64 t406] 3] w490) := ⟨HS.out.call (l := []) (rest := [blk g16 #[.int .i64 a12, .int .i64 a13, .int .i64 a14, .int .i64 a15] 32, blk g19 #[.int .i64 0, .int .i64 0, .int .i64 0, .int .i64 0, .int .i64 0, .int .i64 0, .int .i64 0, .int .i64 0] 38, blk g73 #[.int .i64 a12, .int .i64 a13] 3, blk g150 #[.int .i64 24, .int .i64 a14, .int .i64 t147] 3, blk g176 #[.int .i64 t173, .int .i64 (wrap64 (a13 - 8)), .int .i64 (wrap64 ((wrap64 (a13 - 8)) + 1)), .int .i64 t342, .int .i64 t369, .int .i64 t353, .int .i64 0, .int .i64 0] 38, blk g339 #[.int .i64 (wrap64 (a13 - 8)), .int .i64 (wrap64 (a13 - 1))] 3, blk g350 #[.int .i64 a12, .int .i64 (wrap64 (a13 + 1))] 3, blk g360 #[.int .i64 3, .int .i64 t353] 3, blk g366 #[.int .i64 t363, .int .i64 4] 3, blk g474 #[.int .i64 2, .int .i64 (wrap64 ((wrap64 (a13 - 8)) + 1))] 3, blk g479 #[.int .i64 2, .int .i64 t394] 3, blk g486 #[.int .i64 t400, .int .i64 t406] 3]) hS⟩
          clear HS hS
          have HS := HS_
          clear HS_
          refine ⟨_, rfl, ?_⟩
          refine hK.out _ _ (⟨blk_cellv (HS.out.at4) 4 rfl, blk_cellv (HS.out.at0) 3 rfl, blk_cellv (HS.out.at4) 2 rfl⟩) (fun hHeld => ?_)
          clear hK K
          refine norm_ (a' := ?_) ?_ ?_
          rotate_left
          · show Act.put _ (some 65) _ = _
            simp only [Act.put, List.setIfInBounds_toArray, List.set_cons_zero, List.set_cons_succ, i64_w, i32_w]
            rfl
          refine pure_ (i := 13) (N := some 66) (v := ?_) (a' := ?_) #[true, true, true, true, true, true, true, true, true, true, true, true, true, true, false] rfl rfl (by kernel_rfl) (fun _ _ _ h => h) (Or.inl ⟨by rfl, ?_⟩) ?_ ?_
          rotate_left
          · intro w'
            go_simp
            with_reducible rfl
          rotate_left
          · simp only [Act.put, List.setIfInBounds_toArray, List.set_cons_zero, List.set_cons_succ, i64_w, i32_w]
            rfl
          refine one_ (i := 14) (N := none) #[true, true, true, true, true, true, true, true, true, true, true, true, true, true, true] rfl rfl (by kernel_rfl) (by decide) (fun K hK => ?_)
          have hc492 := blk_cellv (v := .int .i64 0) (HS.out.at4) 6 rfl
          have hz493 := blk_fz (HS.out.at4) 6
          refine store_step (w1 := (World.setCell w490 ⟨g176, 6, none⟩ (.int .i64 t412))) (by rfl) rfl ?hr ?_
          case hr => first | (go_simp; done) | (go_simp; rfl)
          clear hc492 hz493
          intro w491 hst
          have hq0 : Sep (fps []) w [blk g16 #[.int .i64 a12, .int .i64 a13, .int .i64 a14, .int .i64 a15] 32, blk g19 #[.int .i64 0, .int .i64 0, .int .i64 0, .int .i64 0, .int .i64 0, .int .i64 0, .int .i64 0, .int .i64 0] 38, blk g73 #[.int .i64 a12, .int .i64 a13] 3, blk g150 #[.int .i64 24, .int .i64 a14, .int .i64 t147] 3, blk g176 #[.int .i64 t173, .int .i64 (wrap64 (a13 - 8)), .int .i64 (wrap64 ((wrap64 (a13 - 8)) + 1)), .int .i64 t342, .int .i64 t369, .int .i64 t353, .int .i64 t412, .int .i64 0] 38, blk g339 #[.int .i64 (wrap64 (a13 - 8)), .int .i64 (wrap64 (a13 - 1))] 3, blk g350 #[.int .i64 a12, .int .i64 (wrap64 (a13 + 1))] 3, blk g360 #[.int .i64 3, .int .i64 t353] 3, blk g366 #[.int .i64 t363, .int .i64 4] 3, blk g474 #[.int .i64 2, .int .i64 (wrap64 ((wrap64 (a13 - 8)) + 1))] 3, blk g479 #[.int .i64 2, .int .i64 t394] 3, blk g486 #[.int .i64 t400, .int .i64 t406] 3] (World.setCell w490 ⟨g176, 6, none⟩ (.int .i64 t412)) := (HS.out).set1 (l1 := [blk g16 #[.int .i64 a12, .int .i64 a13, .int .i64 a14, .int .i64 a15] 32, blk g19 #[.int .i64 0, .int .i64 0, .int .i64 0, .int .i64 0, .int .i64 0, .int .i64 0, .int .i64 0, .int .i64 0] 38, blk g73 #[.int .i64 a12, .int .i64 a13] 3, blk g150 #[.int .i64 24, .int .i64 a14, .int .i64 t147] 3]) (l2 := [blk g339 #[.int .i64 (wrap64 (a13 - 8)), .int .i64 (wrap64 (a13 - 1))] 3, blk g350 #[.int .i64 a12, .int .i64 (wrap64 (a13 + 1))] 3, blk g360 #[.int .i64 3, .int .i64 t353] 3, blk g366 #[.int .i64 t363, .int .i64 4] 3, blk g474 #[.int .i64 2, .int .i64 (wrap64 ((wrap64 (a13 - 8)) + 1))] 3, blk g479 #[.int .i64 2, .int .i64 t394] 3, blk g486 #[.int .i64 t400, .int .i64 t406] 3]) 6 (.int .i64 t412)
          have HS_ : Aside0 (Sep (fps []) w [blk g16 #[.int .i64 a12, .int .i64 a13, .int .i64 a14, .int .i64 a15] 32, blk g19 #[.int .i64 0, .int .i64 0, .int .i64 0, .int .i64 0, .int .i64 0, .int .i64 0, .int .i64 0, .int .i64 0] 38, blk g73 #[.int .i64 a12, .int .i64 a13] 3, blk g150 #[.int .i64 24, .int .i64 a14, .int .i64 t147] 3, blk g176 #[.int .i64 t173, .int .i64 (wrap64 (a13 - 8)), .int .i64 (wrap64 ((wrap64 (a13 - 8)) + 1)), .int .i64 t342, .int .i64 t369, .int .i64 t353, .int .i64 t412, .int .i64 0] 38, blk g339 #[.int .i64 (wrap64 (a13 - 8)), .int .i64 (wrap64 (a13 - 1))] 3, blk g350 #[.int .i64 a12, .int .i64 (wrap64 (a13 + 1))] 3, blk g360 #[.int .i64 3, .int .i64 t353] 3, blk g366 #[.int .i64 t363, .int .i64 4] 3, blk g474 #[.int .i64 2, .int .i64 (wrap64 ((wrap64 (a13 - 8)) + 1))] 3, blk g479 #[.int .i64 2, .int .i64 t394] 3, blk g486 #[.int .i64 t400, .int .i64 t406] 3] w491) := ⟨by rw [hst]; exact hq0⟩
          clear hq0
          clear HS hst
          have HS := HS_
          clear HS_
          refine hK.out _ _ (⟨blk_cellv (HS.out.at4) 4 rfl, blk_cellv (HS.out.at0) 3 rfl, blk_cellv (HS.out.at4) 2 rfl⟩) (fun hHeld => ?_)
          clear hK K
          refine done_ (by kernel_rfl) ?_
          go_wp2_with fail
          go_meet
          case rel => exact ⟨g479, g474, g486, ⟨((((((((((((HS.out).front 11 (by simp)).front 10 (by simp)).front 11 (by simp)).front 11 (by simp)).front 11 (by simp)).front 11 (by simp)).front 11 (by simp)).front 11 (by simp)).front 11 (by simp)).front 11 (by simp)).front 11 (by simp)).front 11 (by simp)⟩⟩
      case rest =>
        clear HS
        obtain ⟨g397, g403, g409, HS⟩ := hcut
        obtain ⟨w418, rfl⟩ : ∃ x : World, x = wc := ⟨_, rfl⟩
        go_wp2_with fail
        refine start_ (n := 15) (S := (fun w' => w'.cell? ⟨g176, 4, none⟩ = some (.int .i64 t369) ∧ w'.cell? ⟨g176, 5, none⟩ = some (.int .i64 t353) ∧ w'.cell? ⟨g16, 3, none⟩ = some (.int .i64 a15))) (ds := []) #[false, false, false, false, false, false, false, false, false, false, false, false, false, false, false] (by kernel_rfl) rfl rfl (⟨blk_cellv ((HS.out.drew).at4) 4 rfl, blk_cellv ((HS.out.drew).at4) 5 rfl, blk_cellv ((HS.out.drew).at0) 3 rfl⟩) (fun hHeld => ?_)
        have HS_ := Aside0.mk HS.out.drew
        clear HS
        generalize World.drew _ = w495 at HS_ hHeld ⊢
        have HS := HS_
        clear HS_
        refine pure_ (i := 0) (N := some 67) (v := ?_) (a' := ?_) #[true, false, false, false, false, false, false, false, false, false, false, false, false, false, false] rfl rfl (by kernel_rfl) (fun _ _ _ h => h) (Or.inl ⟨by rfl, ?_⟩) ?_ ?_
        rotate_left
        · intro w'
          go_simp
          with_reducible rfl
        rotate_left
        · simp only [Act.put, List.setIfInBounds_toArray, List.set_cons_zero, List.set_cons_succ, i64_w, i32_w]
          rfl
        refine pure_ (i := 2) (N := some 69) (v := ?_) (a' := ?_) #[true, false, true, false, false, false, false, false, false, false, false, false, false, false, false] rfl rfl (by kernel_rfl) (fun _ _ _ h => h) (Or.inl ⟨by rfl, ?_⟩) ?_ ?_
        rotate_left
        · intro w'
          go_simp
          with_reducible rfl
        rotate_left
        · simp only [Act.put, List.setIfInBounds_toArray, List.set_cons_zero, List.set_cons_succ, i64_w, i32_w]
          rfl
        refine pure_ (i := 4) (N := some 71) (v := ?_) (a' := ?_) #[true, false, true, false, true, false, false, false, false, false, false, false, false, false, false] rfl rfl (by kernel_rfl) (fun _ _ _ h => h) (Or.inl ⟨by rfl, ?_⟩) ?_ ?_
        rotate_left
        · intro w'
          go_simp
          with_reducible rfl
        rotate_left
        · simp only [Act.put, List.setIfInBounds_toArray, List.set_cons_zero, List.set_cons_succ, i64_w, i32_w]
          rfl
        refine pure_ (i := 8) (N := some 75) (v := ?_) (a' := ?_) #[true, false, true, false, true, false, false, false, true, false, false, false, false, false, false] rfl rfl (by kernel_rfl) (fun _ _ _ h => h) (Or.inl ⟨by rfl, ?_⟩) ?_ ?_
        rotate_left
        · intro w'
          go_simp
          with_reducible rfl
        rotate_left
        · simp only [Act.put, List.setIfInBounds_toArray, List.set_cons_zero, List.set_cons_succ, i64_w, i32_w]
          rfl
        refine take_ (i := 1) (N := some 68) (v := ?_) (a' := ?_) #[true, true, true, false, true, false, false, false, true, false, false, false, false, false, false] rfl rfl (by kernel_rfl) (fun _ _ _ h => h) (Or.inl ⟨by rfl, ?_⟩) hHeld ?_ ?_
        rotate_left
        · rintro w' hS'
          obtain ⟨s0, s1, s2⟩ := hS'
          go_simp
          with_reducible rfl
        rotate_left
        · simp only [Act.put, List.setIfInBounds_toArray, List.set_cons_zero, List.set_cons_succ, i64_w, i32_w]
          rfl
        refine take_ (i := 3) (N := some 70) (v := ?_) (a' := ?_) #[true, true, true, true, true, false, false, false, true, false, false, false, false, false, false] rfl rfl (by kernel_rfl) (fun _ _ _ h => h) (Or.inl ⟨by rfl, ?_⟩) hHeld ?_ ?_
        rotate_left
        · rintro w' hS'
          obtain ⟨s0, s1, s2⟩ := hS'
          go_simp
          with_reducible rfl
        rotate_left
        · simp only [Act.put, List.setIfInBounds_toArray, List.set_cons_zero, List.set_cons_succ, i64_w, i32_w]
          rfl
        refine take_ (i := 5) (N := some 72) (v := ?_) (a' := ?_) #[true, true, true, true, true, true, false, false, true, false, false, false, false, false, false] rfl rfl (by kernel_rfl) (fun _ _ _ h => h) (Or.inl ⟨by rfl, ?_⟩) hHeld ?_ ?_
        rotate_left
        · rintro w' hS'
          obtain ⟨s0, s1, s2⟩ := hS'
          go_simp
          with_reducible rfl
        rotate_left
        · simp only [Act.put, List.setIfInBounds_toArray, List.set_cons_zero, List.set_cons_succ, i64_w, i32_w]
          rfl
        refine take_ (i := 9) (N := some 76) (v := ?_) (a' := ?_) #[true, true, true, true, true, true, false, false, true, true, false, false, false, false, false] rfl rfl (by kernel_rfl) (fun _ _ _ h => h) (Or.inl ⟨by rfl, ?_⟩) hHeld ?_ ?_
        rotate_left
        · rintro w' hS'
          obtain ⟨s0, s1, s2⟩ := hS'
          go_simp
          with_reducible rfl
        rotate_left
        · simp only [Act.put, List.setIfInBounds_toArray, List.set_cons_zero, List.set_cons_succ, i64_w, i32_w]
          rfl
        refine one_ (i := 6) (N := some 73) #[true, true, true, true, true, true, true, false, true, true, false, false, false, false, false] rfl rfl (by kernel_rfl) (by decide) (fun K hK => ?_)
        refine slice_step (n := 3) (by rfl) (N := 73) rfl (cs := #[.int .i64 t369, .int .i64 t369, .int .i64 t353]) (t := 3) ?hr ?_
        case hr => first | (go_simp; done) | (go_simp; rfl)
        intro g496 hg w497 hbox hb
        have HS_ : Aside0 (Sep (fps []) w [blk g16 #[.int .i64 a12, .int .i64 a13, .int .i64 a14, .int .i64 a15] 32, blk g19 #[.int .i64 0, .int .i64 0, .int .i64 0, .int .i64 0, .int .i64 0, .int .i64 0, .int .i64 0, .int .i64 0] 38, blk g73 #[.int .i64 a12, .int .i64 a13] 3, blk g150 #[.int .i64 24, .int .i64 a14, .int .i64 t147] 3, blk g176 #[.int .i64 t173, .int .i64 (wrap64 (a13 - 8)), .int .i64 (wrap64 ((wrap64 (a13 - 8)) + 1)), .int .i64 t342, .int .i64 t369, .int .i64 t353, .int .i64 t412, .int .i64 0] 38, blk g339 #[.int .i64 (wrap64 (a13 - 8)), .int .i64 (wrap64 (a13 - 1))] 3, blk g350 #[.int .i64 a12, .int .i64 (wrap64 (a13 + 1))] 3, blk g360 #[.int .i64 3, .int .i64 t353] 3, blk g366 #[.int .i64 t363, .int .i64 4] 3, blk g397 #[.int .i64 2, .int .i64 t394] 3, blk g403 #[.int .i64 2, .int .i64 (wrap64 ((wrap64 (a13 - 8)) + 1))] 3, blk g409 #[.int .i64 t400, .int .i64 t406] 3, blk g496 #[.int .i64 t369, .int .i64 t369, .int .i64 t353] 3] w497) := ⟨HS.out.box hg hbox hb⟩
        clear HS hg hbox hb
        have HS := HS_
        clear HS_
        refine hK.out _ _ (⟨blk_cellv (HS.out.at4) 4 rfl, blk_cellv (HS.out.at4) 5 rfl, blk_cellv (HS.out.at0) 3 rfl⟩) (fun hHeld => ?_)
        clear hK K
        refine norm_ (a' := ?_) ?_ ?_
        rotate_left
        · show Act.put _ (some 73) _ = _
          simp only [Act.put, List.setIfInBounds_toArray, List.set_cons_zero, List.set_cons_succ, i64_w, i32_w]
          rfl
        refine one_ (i := 7) (N := some 74) #[true, true, true, true, true, true, true, true, true, true, false, false, false, false, false] rfl rfl (by kernel_rfl) (by decide) (fun K hK => ?_)
        obtain ⟨t499, HA500, H⟩ := bind_some H
        refine goes_ Try.func41 (by kernel_rfl) rfl #[.slice (some ⟨g496, 0, none⟩) 3 3] (by rfl) rfl rfl (by (try simp only [List.map_toArray, List.map_cons, List.map_nil]); first | done | rfl) ?_
        refine (ratio_Add.calls _ [t369, t369, t353] (some ⟨g496, 0, none⟩) 3 t499 _ ⟨C_of_blk (xs := [t369, t369, t353]) (HS.out.nth 12 rfl) (by simp)⟩ ⟨HS.out.begin (l := []) (rest := [blk g16 #[.int .i64 a12, .int .i64 a13, .int .i64 a14, .int .i64 a15] 32, blk g19 #[.int .i64 0, .int .i64 0, .int .i64 0, .int .i64 0, .int .i64 0, .int .i64 0, .int .i64 0, .int .i64 0] 38, blk g73 #[.int .i64 a12, .int .i64 a13] 3, blk g150 #[.int .i64 24, .int .i64 a14, .int .i64 t147] 3, blk g176 #[.int .i64 t173, .int .i64 (wrap64 (a13 - 8)), .int .i64 (wrap64 ((wrap64 (a13 - 8)) + 1)), .int .i64 t342, .int .i64 t369, .int .i64 t353, .int .i64 t412, .int .i64 0] 38, blk g339 #[.int .i64 (wrap64 (a13 - 8)), .int .i64 (wrap64 (a13 - 1))] 3, blk g350 #[.int .i64 a12, .int .i64 (wrap64 (a13 + 1))] 3, blk g360 #[.int .i64 3, .int .i64 t353] 3, blk g366 #[.int .i64 t363, .int .i64 4] 3, blk g397 #[.int .i64 2, .int .i64 t394] 3, blk g403 #[.int .i64 2, .int .i64 (wrap64 ((wrap64 (a13 - 8)) + 1))] 3, blk g409 #[.int .i64 t400, .int .i64 t406] 3, blk g496 #[.int .i64 t369, .int .i64 t369, .int .i64 t353] 3])⟩ HA500).mono ?_
        rintro e_ w501 ⟨rfl, hS⟩
        have HS_ : Aside0 (Sep (fps []) w [blk g16 #[.int .i64 a12, .int .i64 a13, .int .i64 a14, .int .i64 a15] 32, blk g19 #[.int .i64 0, .int .i64 0, .int .i64 0, .int .i64 0, .int .i64 0, .int .i64 0, .int .i64 0, .int .i64 0] 38, blk g73 #[.int .i64 a12, .int .i64 a13] 3, blk g150 #[.int .i64 24, .int .i64 a14, .int .i64 t147] 3, blk g176 #[.int .i64 t173, .int .i64 (wrap64 (a13 - 8)), .int .i64 (wrap64 ((wrap64 (a13 - 8)) + 1)), .int .i64 t342, .int .i64 t369, .int .i64 t353, .int .i64 t412, .int .i64 0] 38, blk g339 #[.int .i64 (wrap64 (a13 - 8)), .int .i64 (wrap64 (a13 - 1))] 3, blk g350 #[.int .i64 a12, .int .i64 (wrap64 (a13 + 1))] 3, blk g360 #[.int .i64 3, .int .i64 t353] 3, blk g366 #[.int .i64 t363, .int .i64 4] 3, blk g397 #[.int .i64 2, .int .i64 t394] 3, blk g403 #[.int .i64 2, .int .i64 (wrap64 ((wrap64 (a13 - 8)) + 1))] 3, blk g409 #[.int .i64 t400, .int .i64 t406] 3, blk g496 #[.int .i64 t369, .int .i64 t369, .int .i64 t353] 3] w501) := ⟨HS.out.call (l := []) (rest := [blk g16 #[.int .i64 a12, .int .i64 a13, .int .i64 a14, .int .i64 a15] 32, blk g19 #[.int .i64 0, .int .i64 0, .int .i64 0, .int .i64 0, .int .i64 0, .int .i64 0, .int .i64 0, .int .i64 0] 38, blk g73 #[.int .i64 a12, .int .i64 a13] 3, blk g150 #[.int .i64 24, .int .i64 a14, .int .i64 t147] 3, blk g176 #[.int .i64 t173, .int .i64 (wrap64 (a13 - 8)), .int .i64 (wrap64 ((wrap64 (a13 - 8)) + 1)), .int .i64 t342, .int .i64 t369, .int .i64 t353, .int .i64 t412, .int .i64 0] 38, blk g339 #[.int .i64 (wrap64 (a13 - 8)), .int .i64 (wrap64 (a13 - 1))] 3, blk g350 #[.int .i64 a12, .int .i64 (wrap64 (a13 + 1))] 3, blk g360 #[.int .i64 3, .int .i64 t353] 3, blk g366 #[.int .i64 t363, .int .i64 4] 3, blk g397 #[.int .i64 2, .int .i64 t394] 3, blk g403 #[.int .i64 2, .int .i64 (wrap64 ((wrap64 (a13 - 8)) + 1))] 3, blk g409 #[.int .i64 t400, .int .i64 t406] 3, blk g496 #[.int .i64 t369, .int .i64 t369, .int .i64 t353] 3]) hS⟩
        clear HS hS
        have HS := HS_
        clear HS_
        refine ⟨_, rfl, ?_⟩
        refine hK.out _ _ (⟨blk_cellv (HS.out.at4) 4 rfl, blk_cellv (HS.out.at4) 5 rfl, blk_cellv (HS.out.at0) 3 rfl⟩) (fun hHeld => ?_)
        clear hK K
        refine norm_ (a' := ?_) ?_ ?_
        rotate_left
        · show Act.put _ (some 74) _ = _
          simp only [Act.put, List.setIfInBounds_toArray, List.set_cons_zero, List.set_cons_succ, i64_w, i32_w]
          rfl
        refine one_ (i := 10) (N := some 77) #[true, true, true, true, true, true, true, true, true, true, true, false, false, false, false] rfl rfl (by kernel_rfl) (by decide) (fun K hK => ?_)
        obtain ⟨t502, HA503, H⟩ := bind_some H
        refine goes_ Try.func45 (by kernel_rfl) rfl #[.int .i64 t499, .int .i64 a15] (by rfl) rfl rfl (by (try simp only [List.map_toArray, List.map_cons, List.map_nil]); first | done | rfl) ?_
        refine (ratio_Up.calls t499 a15 t502 _ ⟨HS.out.begin (l := []) (rest := [blk g16 #[.int .i64 a12, .int .i64 a13, .int .i64 a14, .int .i64 a15] 32, blk g19 #[.int .i64 0, .int .i64 0, .int .i64 0, .int .i64 0, .int .i64 0, .int .i64 0, .int .i64 0, .int .i64 0] 38, blk g73 #[.int .i64 a12, .int .i64 a13] 3, blk g150 #[.int .i64 24, .int .i64 a14, .int .i64 t147] 3, blk g176 #[.int .i64 t173, .int .i64 (wrap64 (a13 - 8)), .int .i64 (wrap64 ((wrap64 (a13 - 8)) + 1)), .int .i64 t342, .int .i64 t369, .int .i64 t353, .int .i64 t412, .int .i64 0] 38, blk g339 #[.int .i64 (wrap64 (a13 - 8)), .int .i64 (wrap64 (a13 - 1))] 3, blk g350 #[.int .i64 a12, .int .i64 (wrap64 (a13 + 1))] 3, blk g360 #[.int .i64 3, .int .i64 t353] 3, blk g366 #[.int .i64 t363, .int .i64 4] 3, blk g397 #[.int .i64 2, .int .i64 t394] 3, blk g403 #[.int .i64 2, .int .i64 (wrap64 ((wrap64 (a13 - 8)) + 1))] 3, blk g409 #[.int .i64 t400, .int .i64 t406] 3, blk g496 #[.int .i64 t369, .int .i64 t369, .int .i64 t353] 3])⟩ HA503).mono ?_
        rintro e_ w504 ⟨rfl, hS⟩
        have HS_ : Aside0 (Sep (fps []) w [blk g16 #[.int .i64 a12, .int .i64 a13, .int .i64 a14, .int .i64 a15] 32, blk g19 #[.int .i64 0, .int .i64 0, .int .i64 0, .int .i64 0, .int .i64 0, .int .i64 0, .int .i64 0, .int .i64 0] 38, blk g73 #[.int .i64 a12, .int .i64 a13] 3, blk g150 #[.int .i64 24, .int .i64 a14, .int .i64 t147] 3, blk g176 #[.int .i64 t173, .int .i64 (wrap64 (a13 - 8)), .int .i64 (wrap64 ((wrap64 (a13 - 8)) + 1)), .int .i64 t342, .int .i64 t369, .int .i64 t353, .int .i64 t412, .int .i64 0] 38, blk g339 #[.int .i64 (wrap64 (a13 - 8)), .int .i64 (wrap64 (a13 - 1))] 3, blk g350 #[.int .i64 a12, .int .i64 (wrap64 (a13 + 1))] 3, blk g360 #[.int .i64 3, .int .i64 t353] 3, blk g366 #[.int .i64 t363, .int .i64 4] 3, blk g397 #[.int .i64 2, .int .i64 t394] 3, blk g403 #[.int .i64 2, .int .i64 (wrap64 ((wrap64 (a13 - 8)) + 1))] 3, blk g409 #[.int .i64 t400, .int .i64 t406] 3, blk g496 #[.int .i64 t369, .int .i64 t369, .int .i64 t353] 3] w504) := ⟨HS.out.call (l := []) (rest := [blk g16 #[.int .i64 a12, .int .i64 a13, .int .i64 a14, .int .i64 a15] 32, blk g19 #[.int .i64 0, .int .i64 0, .int .i64 0, .int .i64 0, .int .i64 0, .int .i64 0, .int .i64 0, .int .i64 0] 38, blk g73 #[.int .i64 a12, .int .i64 a13] 3, blk g150 #[.int .i64 24, .int .i64 a14, .int .i64 t147] 3, blk g176 #[.int .i64 t173, .int .i64 (wrap64 (a13 - 8)), .int .i64 (wrap64 ((wrap64 (a13 - 8)) + 1)), .int .i64 t342, .int .i64 t369, .int .i64 t353, .int .i64 t412, .int .i64 0] 38, blk g339 #[.int .i64 (wrap64 (a13 - 8)), .int .i64 (wrap64 (a13 - 1))] 3, blk g350 #[.int .i64 a12, .int .i64 (wrap64 (a13 + 1))] 3, blk g360 #[.int .i64 3, .int .i64 t353] 3, blk g366 #[.int .i64 t363, .int .i64 4] 3, blk g397 #[.int .i64 2, .int .i64 t394] 3, blk g403 #[.int .i64 2, .int .i64 (wrap64 ((wrap64 (a13 - 8)) + 1))] 3, blk g409 #[.int .i64 t400, .int .i64 t406] 3, blk g496 #[.int .i64 t369, .int .i64 t369, .int .i64 t353] 3]) hS⟩
        clear HS hS
        have HS := HS_
        clear HS_
        refine ⟨_, rfl, ?_⟩
        refine hK.out _ _ (⟨blk_cellv (HS.out.at4) 4 rfl, blk_cellv (HS.out.at4) 5 rfl, blk_cellv (HS.out.at0) 3 rfl⟩) (fun hHeld => ?_)
        clear hK K
        refine norm_ (a' := ?_) ?_ ?_
        rotate_left
        · show Act.put _ (some 77) _ = _
          simp only [Act.put, List.setIfInBounds_toArray, List.set_cons_zero, List.set_cons_succ, i64_w, i32_w]
          rfl
        refine one_ (i := 11) (N := some 78) #[true, true, true, true, true, true, true, true, true, true, true, true, false, false, false] rfl rfl (by kernel_rfl) (by decide) (fun K hK => ?_)
        refine slice_step (n := 2) (by rfl) (N := 78) rfl (cs := #[.int .i64 t502, .int .i64 2]) (t := 3) ?hr ?_
        case hr => first | (go_simp; done) | (go_simp; rfl)
        intro g505 hg w506 hbox hb
        have HS_ : Aside0 (Sep (fps []) w [blk g16 #[.int .i64 a12, .int .i64 a13, .int .i64 a14, .int .i64 a15] 32, blk g19 #[.int .i64 0, .int .i64 0, .int .i64 0, .int .i64 0, .int .i64 0, .int .i64 0, .int .i64 0, .int .i64 0] 38, blk g73 #[.int .i64 a12, .int .i64 a13] 3, blk g150 #[.int .i64 24, .int .i64 a14, .int .i64 t147] 3, blk g176 #[.int .i64 t173, .int .i64 (wrap64 (a13 - 8)), .int .i64 (wrap64 ((wrap64 (a13 - 8)) + 1)), .int .i64 t342, .int .i64 t369, .int .i64 t353, .int .i64 t412, .int .i64 0] 38, blk g339 #[.int .i64 (wrap64 (a13 - 8)), .int .i64 (wrap64 (a13 - 1))] 3, blk g350 #[.int .i64 a12, .int .i64 (wrap64 (a13 + 1))] 3, blk g360 #[.int .i64 3, .int .i64 t353] 3, blk g366 #[.int .i64 t363, .int .i64 4] 3, blk g397 #[.int .i64 2, .int .i64 t394] 3, blk g403 #[.int .i64 2, .int .i64 (wrap64 ((wrap64 (a13 - 8)) + 1))] 3, blk g409 #[.int .i64 t400, .int .i64 t406] 3, blk g496 #[.int .i64 t369, .int .i64 t369, .int .i64 t353] 3, blk g505 #[.int .i64 t502, .int .i64 2] 3] w506) := ⟨HS.out.box hg hbox hb⟩
        clear HS hg hbox hb
        have HS := HS_
        clear HS_
        refine hK.out _ _ (⟨blk_cellv (HS.out.at4) 4 rfl, blk_cellv (HS.out.at4) 5 rfl, blk_cellv (HS.out.at0) 3 rfl⟩) (fun hHeld => ?_)
        clear hK K
        refine norm_ (a' := ?_) ?_ ?_
        rotate_left
        · show Act.put _ (some 78) _ = _
          simp only [Act.put, List.setIfInBounds_toArray, List.set_cons_zero, List.set_cons_succ, i64_w, i32_w]
          rfl
        refine one_ (i := 12) (N := some 79) #[true, true, true, true, true, true, true, true, true, true, true, true, true, false, false] rfl rfl (by kernel_rfl) (by decide) (fun K hK => ?_)
        obtain ⟨t508, HA509, H⟩ := bind_some H
        refine goes_ Try.func41 (by kernel_rfl) rfl #[.slice (some ⟨g505, 0, none⟩) 2 2] (by rfl) rfl rfl (by (try simp only [List.map_toArray, List.map_cons, List.map_nil]); first | done | rfl) ?_
        refine (ratio_Add.calls _ [t502, 2] (some ⟨g505, 0, none⟩) 2 t508 _ ⟨C_of_blk (xs := [t502, 2]) (HS.out.nth 13 rfl) (by simp)⟩ ⟨HS.out.begin (l := []) (rest := [blk g16 #[.int .i64 a12, .int .i64 a13, .int .i64 a14, .int .i64 a15] 32, blk g19 #[.int .i64 0, .int .i64 0, .int .i64 0, .int .i64 0, .int .i64 0, .int .i64 0, .int .i64 0, .int .i64 0] 38, blk g73 #[.int .i64 a12, .int .i64 a13] 3, blk g150 #[.int .i64 24, .int .i64 a14, .int .i64 t147] 3, blk g176 #[.int .i64 t173, .int .i64 (wrap64 (a13 - 8)), .int .i64 (wrap64 ((wrap64 (a13 - 8)) + 1)), .int .i64 t342, .int .i64 t369, .int .i64 t353, .int .i64 t412, .int .i64 0] 38, blk g339 #[.int .i64 (wrap64 (a13 - 8)), .int .i64 (wrap64 (a13 - 1))] 3, blk g350 #[.int .i64 a12, .int .i64 (wrap64 (a13 + 1))] 3, blk g360 #[.int .i64 3, .int .i64 t353] 3, blk g366 #[.int .i64 t363, .int .i64 4] 3, blk g397 #[.int .i64 2, .int .i64 t394] 3, blk g403 #[.int .i64 2, .int .i64 (wrap64 ((wrap64 (a13 - 8)) + 1))] 3, blk g409 #[.int .i64 t400, .int .i64 t406] 3, blk g496 #[.int .i64 t369, .int .i64 t369, .int .i64 t353] 3, blk g505 #[.int .i64 t502, .int .i64 2] 3])⟩ HA509).mono ?_
        rintro e_ w510 ⟨rfl, hS⟩
        have HS_ : Aside0 (Sep (fps []) w [blk g16 #[.int .i64 a12, .int .i64 a13, .int .i64 a14, .int .i64 a15] 32, blk g19 #[.int .i64 0, .int .i64 0, .int .i64 0, .int .i64 0, .int .i64 0, .int .i64 0, .int .i64 0, .int .i64 0] 38, blk g73 #[.int .i64 a12, .int .i64 a13] 3, blk g150 #[.int .i64 24, .int .i64 a14, .int .i64 t147] 3, blk g176 #[.int .i64 t173, .int .i64 (wrap64 (a13 - 8)), .int .i64 (wrap64 ((wrap64 (a13 - 8)) + 1)), .int .i64 t342, .int .i64 t369, .int .i64 t353, .int .i64 t412, .int .i64 0] 38, blk g339 #[.int .i64 (wrap64 (a13 - 8)), .int .i64 (wrap64 (a13 - 1))] 3, blk g350 #[.int .i64 a12, .int .i64 (wrap64 (a13 + 1))] 3, blk g360 #[.int .i64 3, .int .i64 t353] 3, blk g366 #[.int .i64 t363, .int .i64 4] 3, blk g397 #[.int .i64 2, .int .i64 t394] 3, blk g403 #[.int .i64 2, .int .i64 (wrap64 ((wrap64 (a13 - 8)) + 1))] 3, blk g409 #[.int .i64 t400, .int .i64 t406] 3, blk g496 #[.int .i64 t369, .int .i64 t369, .int .i64 t353] 3, blk g505 #[.int .i64 t502, .int .i64 2] 3] w510) := ⟨HS.out.call (l := []) (rest := [blk g16 #[.int .i64 a12, .int .i64 a13, .int .i64 a14, .int .i64 a15] 32, blk g19 #[.int .i64 0, .int .i64 0, .int .i64 0, .int .i64 0, .int .i64 0, .int .i64 0, .int .i64 0, .int .i64 0] 38, blk g73 #[.int .i64 a12, .int .i64 a13] 3, blk g150 #[.int .i64 24, .int .i64 a14, .int .i64 t147] 3, blk g176 #[.int .i64 t173, .int .i64 (wrap64 (a13 - 8)), .int .i64 (wrap64 ((wrap64 (a13 - 8)) + 1)), .int .i64 t342, .int .i64 t369, .int .i64 t353, .int .i64 t412, .int .i64 0] 38, blk g339 #[.int .i64 (wrap64 (a13 - 8)), .int .i64 (wrap64 (a13 - 1))] 3, blk g350 #[.int .i64 a12, .int .i64 (wrap64 (a13 + 1))] 3, blk g360 #[.int .i64 3, .int .i64 t353] 3, blk g366 #[.int .i64 t363, .int .i64 4] 3, blk g397 #[.int .i64 2, .int .i64 t394] 3, blk g403 #[.int .i64 2, .int .i64 (wrap64 ((wrap64 (a13 - 8)) + 1))] 3, blk g409 #[.int .i64 t400, .int .i64 t406] 3, blk g496 #[.int .i64 t369, .int .i64 t369, .int .i64 t353] 3, blk g505 #[.int .i64 t502, .int .i64 2] 3]) hS⟩
        clear HS hS
        have HS := HS_
        clear HS_
        refine ⟨_, rfl, ?_⟩
        refine hK.out _ _ (⟨blk_cellv (HS.out.at4) 4 rfl, blk_cellv (HS.out.at4) 5 rfl, blk_cellv (HS.out.at0) 3 rfl⟩) (fun hHeld => ?_)
        clear hK K
        refine norm_ (a' := ?_) ?_ ?_
        rotate_left
        · show Act.put _ (some 79) _ = _
          simp only [Act.put, List.setIfInBounds_toArray, List.set_cons_zero, List.set_cons_succ, i64_w, i32_w]
          rfl
        refine pure_ (i := 13) (N := some 80) (v := ?_) (a' := ?_) #[true, true, true, true, true, true, true, true, true, true, true, true, true, true, false] rfl rfl (by kernel_rfl) (fun _ _ _ h => h) (Or.inl ⟨by rfl, ?_⟩) ?_ ?_
        rotate_left
        · intro w'
          go_simp
          with_reducible rfl
        rotate_left
        · simp only [Act.put, List.setIfInBounds_toArray, List.set_cons_zero, List.set_cons_succ, i64_w, i32_w]
          rfl
        refine one_ (i := 14) (N := none) #[true, true, true, true, true, true, true, true, true, true, true, true, true, true, true] rfl rfl (by kernel_rfl) (by decide) (fun K hK => ?_)
        have hc512 := blk_cellv (v := .int .i64 0) (HS.out.at4) 7 rfl
        have hz513 := blk_fz (HS.out.at4) 7
        refine store_step (w1 := (World.setCell w510 ⟨g176, 7, none⟩ (.int .i64 t508))) (by rfl) rfl ?hr ?_
        case hr => first | (go_simp; done) | (go_simp; rfl)
        clear hc512 hz513
        intro w511 hst
        have hq0 : Sep (fps []) w [blk g16 #[.int .i64 a12, .int .i64 a13, .int .i64 a14, .int .i64 a15] 32, blk g19 #[.int .i64 0, .int .i64 0, .int .i64 0, .int .i64 0, .int .i64 0, .int .i64 0, .int .i64 0, .int .i64 0] 38, blk g73 #[.int .i64 a12, .int .i64 a13] 3, blk g150 #[.int .i64 24, .int .i64 a14, .int .i64 t147] 3, blk g176 #[.int .i64 t173, .int .i64 (wrap64 (a13 - 8)), .int .i64 (wrap64 ((wrap64 (a13 - 8)) + 1)), .int .i64 t342, .int .i64 t369, .int .i64 t353, .int .i64 t412, .int .i64 t508] 38, blk g339 #[.int .i64 (wrap64 (a13 - 8)), .int .i64 (wrap64 (a13 - 1))] 3, blk g350 #[.int .i64 a12, .int .i64 (wrap64 (a13 + 1))] 3, blk g360 #[.int .i64 3, .int .i64 t353] 3, blk g366 #[.int .i64 t363, .int .i64 4] 3, blk g397 #[.int .i64 2, .int .i64 t394] 3, blk g403 #[.int .i64 2, .int .i64 (wrap64 ((wrap64 (a13 - 8)) + 1))] 3, blk g409 #[.int .i64 t400, .int .i64 t406] 3, blk g496 #[.int .i64 t369, .int .i64 t369, .int .i64 t353] 3, blk g505 #[.int .i64 t502, .int .i64 2] 3] (World.setCell w510 ⟨g176, 7, none⟩ (.int .i64 t508)) := (HS.out).set1 (l1 := [blk g16 #[.int .i64 a12, .int .i64 a13, .int .i64 a14, .int .i64 a15] 32, blk g19 #[.int .i64 0, .int .i64 0, .int .i64 0, .int .i64 0, .int .i64 0, .int .i64 0, .int .i64 0, .int .i64 0] 38, blk g73 #[.int .i64 a12, .int .i64 a13] 3, blk g150 #[.int .i64 24, .int .i64 a14, .int .i64 t147] 3]) (l2 := [blk g339 #[.int .i64 (wrap64 (a13 - 8)), .int .i64 (wrap64 (a13 - 1))] 3, blk g350 #[.int .i64 a12, .int .i64 (wrap64 (a13 + 1))] 3, blk g360 #[.int .i64 3, .int .i64 t353] 3, blk g366 #[.int .i64 t363, .int .i64 4] 3, blk g397 #[.int .i64 2, .int .i64 t394] 3, blk g403 #[.int .i64 2, .int .i64 (wrap64 ((wrap64 (a13 - 8)) + 1))] 3, blk g409 #[.int .i64 t400, .int .i64 t406] 3, blk g496 #[.int .i64 t369, .int .i64 t369, .int .i64 t353] 3, blk g505 #[.int .i64 t502, .int .i64 2] 3]) 7 (.int .i64 t508)
        have HS_ : Aside0 (Sep (fps []) w [blk g16 #[.int .i64 a12, .int .i64 a13, .int .i64 a14, .int .i64 a15] 32, blk g19 #[.int .i64 0, .int .i64 0, .int .i64 0, .int .i64 0, .int .i64 0, .int .i64 0, .int .i64 0, .int .i64 0] 38, blk g73 #[.int .i64 a12, .int .i64 a13] 3, blk g150 #[.int .i64 24, .int .i64 a14, .int .i64 t147] 3, blk g176 #[.int .i64 t173, .int .i64 (wrap64 (a13 - 8)), .int .i64 (wrap64 ((wrap64 (a13 - 8)) + 1)), .int .i64 t342, .int .i64 t369, .int .i64 t353, .int .i64 t412, .int .i64 t508] 38, blk g339 #[.int .i64 (wrap64 (a13 - 8)), .int .i64 (wrap64 (a13 - 1))] 3, blk g350 #[.int .i64 a12, .int .i64 (wrap64 (a13 + 1))] 3, blk g360 #[.int .i64 3, .int .i64 t353] 3, blk g366 #[.int .i64 t363, .int .i64 4] 3, blk g397 #[.int .i64 2, .int .i64 t394] 3, blk g403 #[.int .i64 2, .int .i64 (wrap64 ((wrap64 (a13 - 8)) + 1))] 3, blk g409 #[.int .i64 t400, .int .i64 t406] 3, blk g496 #[.int .i64 t369, .int .i64 t369, .int .i64 t353] 3, blk g505 #[.int .i64 t502, .int .i64 2] 3] w511) := ⟨by rw [hst]; exact hq0⟩
        clear hq0
        clear HS hst
        have HS := HS_
        clear HS_
        refine hK.out _ _ (⟨blk_cellv (HS.out.at4) 4 rfl, blk_cellv (HS.out.at4) 5 rfl, blk_cellv (HS.out.at0) 3 rfl⟩) (fun hHeld => ?_)
        clear hK K
        refine done_ (by kernel_rfl) ?_
        have hc514 : w511.cell? ⟨g176, 0, none⟩ = some (.int .i64 t173) := blk_cellv (HS.out.at4) 0 rfl
        have hc515 : w511.cell? ⟨g176, 1, none⟩ = some (.int .i64 (wrap64 (a13 - 8))) := blk_cellv (HS.out.at4) 1 rfl
        have hc516 : w511.cell? ⟨g176, 2, none⟩ = some (.int .i64 (wrap64 ((wrap64 (a13 - 8)) + 1))) := blk_cellv (HS.out.at4) 2 rfl
        have hc517 : w511.cell? ⟨g176, 3, none⟩ = some (.int .i64 t342) := blk_cellv (HS.out.at4) 3 rfl
        have hc518 : w511.cell? ⟨g176, 4, none⟩ = some (.int .i64 t369) := blk_cellv (HS.out.at4) 4 rfl
        have hc519 : w511.cell? ⟨g176, 5, none⟩ = some (.int .i64 t353) := blk_cellv (HS.out.at4) 5 rfl
        have hc520 : w511.cell? ⟨g176, 6, none⟩ = some (.int .i64 t412) := blk_cellv (HS.out.at4) 6 rfl
        have hc521 : w511.cell? ⟨g176, 7, none⟩ = some (.int .i64 t508) := blk_cellv (HS.out.at4) 7 rfl
        have hc522 : w511.cell? ⟨g19, 0, none⟩ = some (.int .i64 0) := blk_cellv (HS.out.at1) 0 rfl
        have hz523 : w511.frozen? ⟨g19, 0, none⟩ = false := blk_fz (HS.out.at1) 0
        have hc524 : w511.cell? ⟨g19, 1, none⟩ = some (.int .i64 0) := blk_cellv (HS.out.at1) 1 rfl
        have hz525 : w511.frozen? ⟨g19, 1, none⟩ = false := blk_fz (HS.out.at1) 1
        have hc526 : w511.cell? ⟨g19, 2, none⟩ = some (.int .i64 0) := blk_cellv (HS.out.at1) 2 rfl
        have hz527 : w511.frozen? ⟨g19, 2, none⟩ = false := blk_fz (HS.out.at1) 2
        have hc528 : w511.cell? ⟨g19, 3, none⟩ = some (.int .i64 0) := blk_cellv (HS.out.at1) 3 rfl
        have hz529 : w511.frozen? ⟨g19, 3, none⟩ = false := blk_fz (HS.out.at1) 3
        have hc530 : w511.cell? ⟨g19, 4, none⟩ = some (.int .i64 0) := blk_cellv (HS.out.at1) 4 rfl
        have hz531 : w511.frozen? ⟨g19, 4, none⟩ = false := blk_fz (HS.out.at1) 4
        have hc532 : w511.cell? ⟨g19, 5, none⟩ = some (.int .i64 0) := blk_cellv (HS.out.at1) 5 rfl
        have hz533 : w511.frozen? ⟨g19, 5, none⟩ = false := blk_fz (HS.out.at1) 5
        have hc534 : w511.cell? ⟨g19, 6, none⟩ = some (.int .i64 0) := blk_cellv (HS.out.at1) 6 rfl
        have hz535 : w511.frozen? ⟨g19, 6, none⟩ = false := blk_fz (HS.out.at1) 6
        have hc536 : w511.cell? ⟨g19, 7, none⟩ = some (.int .i64 0) := blk_cellv (HS.out.at1) 7 rfl
        have hz537 : w511.frozen? ⟨g19, 7, none⟩ = false := blk_fz (HS.out.at1) 7
        go_wp2_with (first | ((with_reducible refine gate_store (t := 38) (p := 2) rfl ?_); refine store_event (w1 := (World.setCell (World.setCell (World.setCell (World.setCell (World.setCell (World.setCell (World.setCell (World.setCell w511 ⟨g19, 0, none⟩ (.int .i64 t173)) ⟨g19, 1, none⟩ (.int .i64 (wrap64 (a13 - 8)))) ⟨g19, 2, none⟩ (.int .i64 (wrap64 ((wrap64 (a13 - 8)) + 1)))) ⟨g19, 3, none⟩ (.int .i64 t342)) ⟨g19, 4, none⟩ (.int .i64 t369)) ⟨g19, 5, none⟩ (.int .i64 t353)) ⟨g19, 6, none⟩ (.int .i64 t412)) ⟨g19, 7, none⟩ (.int .i64 t508))) rfl (t := 38) (p := 2) rfl rfl ?hr ?_; (case hr => first | (go_simp; done) | (go_simp; rfl)); intro w538 hst; clear hc514 hc515 hc516 hc517 hc518 hc519 hc520 hc521 hc522 hz523 hc524 hz525 hc526 hz527 hc528 hz529 hc530 hz531 hc532 hz533 hc534 hz535 hc536 hz537; have hq0 : Sep (fps []) w [blk g16 #[.int .i64 a12, .int .i64 a13, .int .i64 a14, .int .i64 a15] 32, blk g19 #[.int .i64 t173, .int .i64 0, .int .i64 0, .int .i64 0, .int .i64 0, .int .i64 0, .int .i64 0, .int .i64 0] 38, blk g73 #[.int .i64 a12, .int .i64 a13] 3, blk g150 #[.int .i64 24, .int .i64 a14, .int .i64 t147] 3, blk g176 #[.int .i64 t173, .int .i64 (wrap64 (a13 - 8)), .int .i64 (wrap64 ((wrap64 (a13 - 8)) + 1)), .int .i64 t342, .int .i64 t369, .int .i64 t353, .int .i64 t412, .int .i64 t508] 38, blk g339 #[.int .i64 (wrap64 (a13 - 8)), .int .i64 (wrap64 (a13 - 1))] 3, blk g350 #[.int .i64 a12, .int .i64 (wrap64 (a13 + 1))] 3, blk g360 #[.int .i64 3, .int .i64 t353] 3, blk g366 #[.int .i64 t363, .int .i64 4] 3, blk g397 #[.int .i64 2, .int .i64 t394] 3, blk g403 #[.int .i64 2, .int .i64 (wrap64 ((wrap64 (a13 - 8)) + 1))] 3, blk g409 #[.int .i64 t400, .int .i64 t406] 3, blk g496 #[.int .i64 t369, .int .i64 t369, .int .i64 t353] 3, blk g505 #[.int .i64 t502, .int .i64 2] 3] (World.setCell w511 ⟨g19, 0, none⟩ (.int .i64 t173)) := (HS.out).set1 (l1 := [blk g16 #[.int .i64 a12, .int .i64 a13, .int .i64 a14, .int .i64 a15] 32]) (l2 := [blk g73 #[.int .i64 a12, .int .i64 a13] 3, blk g150 #[.int .i64 24, .int .i64 a14, .int .i64 t147] 3, blk g176 #[.int .i64 t173, .int .i64 (wrap64 (a13 - 8)), .int .i64 (wrap64 ((wrap64 (a13 - 8)) + 1)), .int .i64 t342, .int .i64 t369, .int .i64 t353, .int .i64 t412, .int .i64 t508] 38, blk g339 #[.int .i64 (wrap64 (a13 - 8)), .int .i64 (wrap64 (a13 - 1))] 3, blk g350 #[.int .i64 a12, .int .i64 (wrap64 (a13 + 1))] 3, blk g360 #[.int .i64 3, .int .i64 t353] 3, blk g366 #[.int .i64 t363, .int .i64 4] 3, blk g397 #[.int .i64 2, .int .i64 t394] 3, blk g403 #[.int .i64 2, .int .i64 (wrap64 ((wrap64 (a13 - 8)) + 1))] 3, blk g409 #[.int .i64 t400, .int .i64 t406] 3, blk g496 #[.int .i64 t369, .int .i64 t369, .int .i64 t353] 3, blk g505 #[.int .i64 t502, .int .i64 2] 3]) 0 (.int .i64 t173); have hq1 : Sep (fps []) w [blk g16 #[.int .i64 a12, .int .i64 a13, .int .i64 a14, .int .i64 a15] 32, blk g19 #[.int .i64 t173, .int .i64 (wrap64 (a13 - 8)), .int .i64 0, .int .i64 0, .int .i64 0, .int .i64 0, .int .i64 0, .int .i64 0] 38, blk g73 #[.int .i64 a12, .int .i64 a13] 3, blk g150 #[.int .i64 24, .int .i64 a14, .int .i64 t147] 3, blk g176 #[.int .i64 t173, .int .i64 (wrap64 (a13 - 8)), .int .i64 (wrap64 ((wrap64 (a13 - 8)) + 1)), .int .i64 t342, .int .i64 t369, .int .i64 t353, .int .i64 t412, .int .i64 t508] 38, blk g339 #[.int .i64 (wrap64 (a13 - 8)), .int .i64 (wrap64 (a13 - 1))] 3, blk g350 #[.int .i64 a12, .int .i64 (wrap64 (a13 + 1))] 3, blk g360 #[.int .i64 3, .int .i64 t353] 3, blk g366 #[.int .i64 t363, .int .i64 4] 3, blk g397 #[.int .i64 2, .int .i64 t394] 3, blk g403 #[.int .i64 2, .int .i64 (wrap64 ((wrap64 (a13 - 8)) + 1))] 3, blk g409 #[.int .i64 t400, .int .i64 t406] 3, blk g496 #[.int .i64 t369, .int .i64 t369, .int .i64 t353] 3, blk g505 #[.int .i64 t502, .int .i64 2] 3] (World.setCell (World.setCell w511 ⟨g19, 0, none⟩ (.int .i64 t173)) ⟨g19, 1, none⟩ (.int .i64 (wrap64 (a13 - 8)))) := (hq0).set1 (l1 := [blk g16 #[.int .i64 a12, .int .i64 a13, .int .i64 a14, .int .i64 a15] 32]) (l2 := [blk g73 #[.int .i64 a12, .int .i64 a13] 3, blk g150 #[.int .i64 24, .int .i64 a14, .int .i64 t147] 3, blk g176 #[.int .i64 t173, .int .i64 (wrap64 (a13 - 8)), .int .i64 (wrap64 ((wrap64 (a13 - 8)) + 1)), .int .i64 t342, .int .i64 t369, .int .i64 t353, .int .i64 t412, .int .i64 t508] 38, blk g339 #[.int .i64 (wrap64 (a13 - 8)), .int .i64 (wrap64 (a13 - 1))] 3, blk g350 #[.int .i64 a12, .int .i64 (wrap64 (a13 + 1))] 3, blk g360 #[.int .i64 3, .int .i64 t353] 3, blk g366 #[.int .i64 t363, .int .i64 4] 3, blk g397 #[.int .i64 2, .int .i64 t394] 3, blk g403 #[.int .i64 2, .int .i64 (wrap64 ((wrap64 (a13 - 8)) + 1))] 3, blk g409 #[.int .i64 t400, .int .i64 t406] 3, blk g496 #[.int .i64 t369, .int .i64 t369, .int .i64 t353] 3, blk g505 #[.int .i64 t502, .int .i64 2] 3]) 1 (.int .i64 (wrap64 (a13 - 8))); have hq2 : Sep (fps []) w [blk g16 #[.int .i64 a12, .int .i64 a13, .int .i64 a14, .int .i64 a15] 32, blk g19 #[.int .i64 t173, .int .i64 (wrap64 (a13 - 8)), .int .i64 (wrap64 ((wrap64 (a13 - 8)) + 1)), .int .i64 0, .int .i64 0, .int .i64 0, .int .i64 0, .int .i64 0] 38, blk g73 #[.int .i64 a12, .int .i64 a13] 3, blk g150 #[.int .i64 24, .int .i64 a14, .int .i64 t147] 3, blk g176 #[.int .i64 t173, .int .i64 (wrap64 (a13 - 8)), .int .i64 (wrap64 ((wrap64 (a13 - 8)) + 1)), .int .i64 t342, .int .i64 t369, .int .i64 t353, .int .i64 t412, .int .i64 t508] 38, blk g339 #[.int .i64 (wrap64 (a13 - 8)), .int .i64 (wrap64 (a13 - 1))] 3, blk g350 #[.int .i64 a12, .int .i64 (wrap64 (a13 + 1))] 3, blk g360 #[.int .i64 3, .int .i64 t353] 3, blk g366 #[.int .i64 t363, .int .i64 4] 3, blk g397 #[.int .i64 2, .int .i64 t394] 3, blk g403 #[.int .i64 2, .int .i64 (wrap64 ((wrap64 (a13 - 8)) + 1))] 3, blk g409 #[.int .i64 t400, .int .i64 t406] 3, blk g496 #[.int .i64 t369, .int .i64 t369, .int .i64 t353] 3, blk g505 #[.int .i64 t502, .int .i64 2] 3] (World.setCell (World.setCell (World.setCell w511 ⟨g19, 0, none⟩ (.int .i64 t173)) ⟨g19, 1, none⟩ (.int .i64 (wrap64 (a13 - 8)))) ⟨g19, 2, none⟩ (.int .i64 (wrap64 ((wrap64 (a13 - 8)) + 1)))) := (hq1).set1 (l1 := [blk g16 #[.int .i64 a12, .int .i64 a13, .int .i64 a14, .int .i64 a15] 32]) (l2 := [blk g73 #[.int .i64 a12, .int .i64 a13] 3, blk g150 #[.int .i64 24, .int .i64 a14, .int .i64 t147] 3, blk g176 #[.int .i64 t173, .int .i64 (wrap64 (a13 - 8)), .int .i64 (wrap64 ((wrap64 (a13 - 8)) + 1)), .int .i64 t342, .int .i64 t369, .int .i64 t353, .int .i64 t412, .int .i64 t508] 38, blk g339 #[.int .i64 (wrap64 (a13 - 8)), .int .i64 (wrap64 (a13 - 1))] 3, blk g350 #[.int .i64 a12, .int .i64 (wrap64 (a13 + 1))] 3, blk g360 #[.int .i64 3, .int .i64 t353] 3, blk g366 #[.int .i64 t363, .int .i64 4] 3, blk g397 #[.int .i64 2, .int .i64 t394] 3, blk g403 #[.int .i64 2, .int .i64 (wrap64 ((wrap64 (a13 - 8)) + 1))] 3, blk g409 #[.int .i64 t400, .int .i64 t406] 3, blk g496 #[.int .i64 t369, .int .i64 t369, .int .i64 t353] 3, blk g505 #[.int .i64 t502, .int .i64 2] 3]) 2 (.int .i64 (wrap64 ((wrap64 (a13 - 8)) + 1))); have hq3 : Sep (fps []) w [blk g16 #[.int .i64 a12, .int .i64 a13, .int .i64 a14, .int .i64 a15] 32, blk g19 #[.int .i64 t173, .int .i64 (wrap64 (a13 - 8)), .int .i64 (wrap64 ((wrap64 (a13 - 8)) + 1)), .int .i64 t342, .int .i64 0, .int .i64 0, .int .i64 0, .int .i64 0] 38, blk g73 #[.int .i64 a12, .int .i64 a13] 3, blk g150 #[.int .i64 24, .int .i64 a14, .int .i64 t147] 3, blk g176 #[.int .i64 t173, .int .i64 (wrap64 (a13 - 8)), .int .i64 (wrap64 ((wrap64 (a13 - 8)) + 1)), .int .i64 t342, .int .i64 t369, .int .i64 t353, .int .i64 t412, .int .i64 t508] 38, blk g339 #[.int .i64 (wrap64 (a13 - 8)), .int .i64 (wrap64 (a13 - 1))] 3, blk g350 #[.int .i64 a12, .int .i64 (wrap64 (a13 + 1))] 3, blk g360 #[.int .i64 3, .int .i64 t353] 3, blk g366 #[.int .i64 t363, .int .i64 4] 3, blk g397 #[.int .i64 2, .int .i64 t394] 3, blk g403 #[.int .i64 2, .int .i64 (wrap64 ((wrap64 (a13 - 8)) + 1))] 3, blk g409 #[.int .i64 t400, .int .i64 t406] 3, blk g496 #[.int .i64 t369, .int .i64 t369, .int .i64 t353] 3, blk g505 #[.int .i64 t502, .int .i64 2] 3] (World.setCell (World.setCell (World.setCell (World.setCell w511 ⟨g19, 0, none⟩ (.int .i64 t173)) ⟨g19, 1, none⟩ (.int .i64 (wrap64 (a13 - 8)))) ⟨g19, 2, none⟩ (.int .i64 (wrap64 ((wrap64 (a13 - 8)) + 1)))) ⟨g19, 3, none⟩ (.int .i64 t342)) := (hq2).set1 (l1 := [blk g16 #[.int .i64 a12, .int .i64 a13, .int .i64 a14, .int .i64 a15] 32]) (l2 := [blk g73 #[.int .i64 a12, .int .i64 a13] 3, blk g150 #[.int .i64 24, .int .i64 a14, .int .i64 t147] 3, blk g176 #[.int .i64 t173, .int .i64 (wrap64 (a13 - 8)), .int .i64 (wrap64 ((wrap64 (a13 - 8)) + 1)), .int .i64 t342, .int .i64 t369, .int .i64 t353, .int .i64 t412, .int .i64 t508] 38, blk g339 #[.int .i64 (wrap64 (a13 - 8)), .int .i64 (wrap64 (a13 - 1))] 3, blk g350 #[.int .i64 a12, .int .i64 (wrap64 (a13 + 1))] 3, blk g360 #[.int .i64 3, .int .i64 t353] 3, blk g366 #[.int .i64 t363, .int .i64 4] 3, blk g397 #[.int .i64 2, .int .i64 t394] 3, blk g403 #[.int .i64 2, .int .i64 (wrap64 ((wrap64 (a13 - 8)) + 1))] 3, blk g409 #[.int .i64 t400, .int .i64 t406] 3, blk g496 #[.int .i64 t369, .int .i64 t369, .int .i64 t353] 3, blk g505 #[.int .i64 t502, .int .i64 2] 3]) 3 (.int .i64 t342); have hq4 : Sep (fps []) w [blk g16 #[.int .i64 a12, .int .i64 a13, .int .i64 a14, .int .i64 a15] 32, blk g19 #[.int .i64 t173, .int .i64 (wrap64 (a13 - 8)), .int .i64 (wrap64 ((wrap64 (a13 - 8)) + 1)), .int .i64 t342, .int .i64 t369, .int .i64 0, .int .i64 0, .int .i64 0] 38, blk g73 #[.int .i64 a12, .int .i64 a13] 3, blk g150 #[.int .i64 24, .int .i64 a14, .int .i64 t147] 3, blk g176 #[.int .i64 t173, .int .i64 (wrap64 (a13 - 8)), .int .i64 (wrap64 ((wrap64 (a13 - 8)) + 1)), .int .i64 t342, .int .i64 t369, .int .i64 t353, .int .i64 t412, .int .i64 t508] 38, blk g339 #[.int .i64 (wrap64 (a13 - 8)), .int .i64 (wrap64 (a13 - 1))] 3, blk g350 #[.int .i64 a12, .int .i64 (wrap64 (a13 + 1))] 3, blk g360 #[.int .i64 3, .int .i64 t353] 3, blk g366 #[.int .i64 t363, .int .i64 4] 3, blk g397 #[.int .i64 2, .int .i64 t394] 3, blk g403 #[.int .i64 2, .int .i64 (wrap64 ((wrap64 (a13 - 8)) + 1))] 3, blk g409 #[.int .i64 t400, .int .i64 t406] 3, blk g496 #[.int .i64 t369, .int .i64 t369, .int .i64 t353] 3, blk g505 #[.int .i64 t502, .int .i64 2] 3] (World.setCell (World.setCell (World.setCell (World.setCell (World.setCell w511 ⟨g19, 0, none⟩ (.int .i64 t173)) ⟨g19, 1, none⟩ (.int .i64 (wrap64 (a13 - 8)))) ⟨g19, 2, none⟩ (.int .i64 (wrap64 ((wrap64 (a13 - 8)) + 1)))) ⟨g19, 3, none⟩ (.int .i64 t342)) ⟨g19, 4, none⟩ (.int .i64 t369)) := (hq3).set1 (l1 := [blk g16 #[.int .i64 a12, .int .i64 a13, .int .i64 a14, .int .i64 a15] 32]) (l2 := [blk g73 #[.int .i64 a12, .int .i64 a13] 3, blk g150 #[.int .i64 24, .int .i64 a14, .int .i64 t147] 3, blk g176 #[.int .i64 t173, .int .i64 (wrap64 (a13 - 8)), .int .i64 (wrap64 ((wrap64 (a13 - 8)) + 1)), .int .i64 t342, .int .i64 t369, .int .i64 t353, .int .i64 t412, .int .i64 t508] 38, blk g339 #[.int .i64 (wrap64 (a13 - 8)), .int .i64 (wrap64 (a13 - 1))] 3, blk g350 #[.int .i64 a12, .int .i64 (wrap64 (a13 + 1))] 3, blk g360 #[.int .i64 3, .int .i64 t353] 3, blk g366 #[.int .i64 t363, .int .i64 4] 3, blk g397 #[.int .i64 2, .int .i64 t394] 3, blk g403 #[.int .i64 2, .int .i64 (wrap64 ((wrap64 (a13 - 8)) + 1))] 3, blk g409 #[.int .i64 t400, .int .i64 t406] 3, blk g496 #[.int .i64 t369, .int .i64 t369, .int .i64 t353] 3, blk g505 #[.int .i64 t502, .int .i64 2] 3]) 4 (.int .i64 t369); have hq5 : Sep (fps []) w [blk g16 #[.int .i64 a12, .int .i64 a13, .int .i64 a14, .int .i64 a15] 32, blk g19 #[.int .i64 t173, .int .i64 (wrap64 (a13 - 8)), .int .i64 (wrap64 ((wrap64 (a13 - 8)) + 1)), .int .i64 t342, .int .i64 t369, .int .i64 t353, .int .i64 0, .int .i64 0] 38, blk g73 #[.int .i64 a12, .int .i64 a13] 3, blk g150 #[.int .i64 24, .int .i64 a14, .int .i64 t147] 3, blk g176 #[.int .i64 t173, .int .i64 (wrap64 (a13 - 8)), .int .i64 (wrap64 ((wrap64 (a13 - 8)) + 1)), .int .i64 t342, .int .i64 t369, .int .i64 t353, .int .i64 t412, .int .i64 t508] 38, blk g339 #[.int .i64 (wrap64 (a13 - 8)), .int .i64 (wrap64 (a13 - 1))] 3, blk g350 #[.int .i64 a12, .int .i64 (wrap64 (a13 + 1))] 3, blk g360 #[.int .i64 3, .int .i64 t353] 3, blk g366 #[.int .i64 t363, .int .i64 4] 3, blk g397 #[.int .i64 2, .int .i64 t394] 3, blk g403 #[.int .i64 2, .int .i64 (wrap64 ((wrap64 (a13 - 8)) + 1))] 3, blk g409 #[.int .i64 t400, .int .i64 t406] 3, blk g496 #[.int .i64 t369, .int .i64 t369, .int .i64 t353] 3, blk g505 #[.int .i64 t502, .int .i64 2] 3] (World.setCell (World.setCell (World.setCell (World.setCell (World.setCell (World.setCell w511 ⟨g19, 0, none⟩ (.int .i64 t173)) ⟨g19, 1, none⟩ (.int .i64 (wrap64 (a13 - 8)))) ⟨g19, 2, none⟩ (.int .i64 (wrap64 ((wrap64 (a13 - 8)) + 1)))) ⟨g19, 3, none⟩ (.int .i64 t342)) ⟨g19, 4, none⟩ (.int .i64 t369)) ⟨g19, 5, none⟩ (.int .i64 t353)) := (hq4).set1 (l1 := [blk g16 #[.int .i64 a12, .int .i64 a13, .int .i64 a14, .int .i64 a15] 32]) (l2 := [blk g73 #[.int .i64 a12, .int .i64 a13] 3, blk g150 #[.int .i64 24, .int .i64 a14, .int .i64 t147] 3, blk g176 #[.int .i64 t173, .int .i64 (wrap64 (a13 - 8)), .int .i64 (wrap64 ((wrap64 (a13 - 8)) + 1)), .int .i64 t342, .int .i64 t369, .int .i64 t353, .int .i64 t412, .int .i64 t508] 38, blk g339 #[.int .i64 (wrap64 (a13 - 8)), .int .i64 (wrap64 (a13 - 1))] 3, blk g350 #[.int .i64 a12, .int .i64 (wrap64 (a13 + 1))] 3, blk g360 #[.int .i64 3, .int .i64 t353] 3, blk g366 #[.int .i64 t363, .int .i64 4] 3, blk g397 #[.int .i64 2, .int .i64 t394] 3, blk g403 #[.int .i64 2, .int .i64 (wrap64 ((wrap64 (a13 - 8)) + 1))] 3, blk g409 #[.int .i64 t400, .int .i64 t406] 3, blk g496 #[.int .i64 t369, .int .i64 t369, .int .i64 t353] 3, blk g505 #[.int .i64 t502, .int .i64 2] 3]) 5 (.int .i64 t353); have hq6 : Sep (fps []) w [blk g16 #[.int .i64 a12, .int .i64 a13, .int .i64 a14, .int .i64 a15] 32, blk g19 #[.int .i64 t173, .int .i64 (wrap64 (a13 - 8)), .int .i64 (wrap64 ((wrap64 (a13 - 8)) + 1)), .int .i64 t342, .int .i64 t369, .int .i64 t353, .int .i64 t412, .int .i64 0] 38, blk g73 #[.int .i64 a12, .int .i64 a13] 3, blk g150 #[.int .i64 24, .int .i64 a14, .int .i64 t147] 3, blk g176 #[.int .i64 t173, .int .i64 (wrap64 (a13 - 8)), .int .i64 (wrap64 ((wrap64 (a13 - 8)) + 1)), .int .i64 t342, .int .i64 t369, .int .i64 t353, .int .i64 t412, .int .i64 t508] 38, blk g339 #[.int .i64 (wrap64 (a13 - 8)), .int .i64 (wrap64 (a13 - 1))] 3, blk g350 #[.int .i64 a12, .int .i64 (wrap64 (a13 + 1))] 3, blk g360 #[.int .i64 3, .int .i64 t353] 3, blk g366 #[.int .i64 t363, .int .i64 4] 3, blk g397 #[.int .i64 2, .int .i64 t394] 3, blk g403 #[.int .i64 2, .int .i64 (wrap64 ((wrap64 (a13 - 8)) + 1))] 3, blk g409 #[.int .i64 t400, .int .i64 t406] 3, blk g496 #[.int .i64 t369, .int .i64 t369, .int .i64 t353] 3, blk g505 #[.int .i64 t502, .int .i64 2] 3] (World.setCell (World.setCell (World.setCell (World.setCell (World.setCell (World.setCell (World.setCell w511 ⟨g19, 0, none⟩ (.int .i64 t173)) ⟨g19, 1, none⟩ (.int .i64 (wrap64 (a13 - 8)))) ⟨g19, 2, none⟩ (.int .i64 (wrap64 ((wrap64 (a13 - 8)) + 1)))) ⟨g19, 3, none⟩ (.int .i64 t342)) ⟨g19, 4, none⟩ (.int .i64 t369)) ⟨g19, 5, none⟩ (.int .i64 t353)) ⟨g19, 6, none⟩ (.int .i64 t412)) := (hq5).set1 (l1 := [blk g16 #[.int .i64 a12, .int .i64 a13, .int .i64 a14, .int .i64 a15] 32]) (l2 := [blk g73 #[.int .i64 a12, .int .i64 a13] 3, blk g150 #[.int .i64 24, .int .i64 a14, .int .i64 t147] 3, blk g176 #[.int .i64 t173, .int .i64 (wrap64 (a13 - 8)), .int .i64 (wrap64 ((wrap64 (a13 - 8)) + 1)), .int .i64 t342, .int .i64 t369, .int .i64 t353, .int .i64 t412, .int .i64 t508] 38, blk g339 #[.int .i64 (wrap64 (a13 - 8)), .int .i64 (wrap64 (a13 - 1))] 3, blk g350 #[.int .i64 a12, .int .i64 (wrap64 (a13 + 1))] 3, blk g360 #[.int .i64 3, .int .i64 t353] 3, blk g366 #[.int .i64 t363, .int .i64 4] 3, blk g397 #[.int .i64 2, .int .i64 t394] 3, blk g403 #[.int .i64 2, .int .i64 (wrap64 ((wrap64 (a13 - 8)) + 1))] 3, blk g409 #[.int .i64 t400, .int .i64 t406] 3, blk g496 #[.int .i64 t369, .int .i64 t369, .int .i64 t353] 3, blk g505 #[.int .i64 t502, .int .i64 2] 3]) 6 (.int .i64 t412); have hq7 : Sep (fps []) w [blk g16 #[.int .i64 a12, .int .i64 a13, .int .i64 a14, .int .i64 a15] 32, blk g19 #[.int .i64 t173, .int .i64 (wrap64 (a13 - 8)), .int .i64 (wrap64 ((wrap64 (a13 - 8)) + 1)), .int .i64 t342, .int .i64 t369, .int .i64 t353, .int .i64 t412, .int .i64 t508] 38, blk g73 #[.int .i64 a12, .int .i64 a13] 3, blk g150 #[.int .i64 24, .int .i64 a14, .int .i64 t147] 3, blk g176 #[.int .i64 t173, .int .i64 (wrap64 (a13 - 8)), .int .i64 (wrap64 ((wrap64 (a13 - 8)) + 1)), .int .i64 t342, .int .i64 t369, .int .i64 t353, .int .i64 t412, .int .i64 t508] 38, blk g339 #[.int .i64 (wrap64 (a13 - 8)), .int .i64 (wrap64 (a13 - 1))] 3, blk g350 #[.int .i64 a12, .int .i64 (wrap64 (a13 + 1))] 3, blk g360 #[.int .i64 3, .int .i64 t353] 3, blk g366 #[.int .i64 t363, .int .i64 4] 3, blk g397 #[.int .i64 2, .int .i64 t394] 3, blk g403 #[.int .i64 2, .int .i64 (wrap64 ((wrap64 (a13 - 8)) + 1))] 3, blk g409 #[.int .i64 t400, .int .i64 t406] 3, blk g496 #[.int .i64 t369, .int .i64 t369, .int .i64 t353] 3, blk g505 #[.int .i64 t502, .int .i64 2] 3] (World.setCell (World.setCell (World.setCell (World.setCell (World.setCell (World.setCell (World.setCell (World.setCell w511 ⟨g19, 0, none⟩ (.int .i64 t173)) ⟨g19, 1, none⟩ (.int .i64 (wrap64 (a13 - 8)))) ⟨g19, 2, none⟩ (.int .i64 (wrap64 ((wrap64 (a13 - 8)) + 1)))) ⟨g19, 3, none⟩ (.int .i64 t342)) ⟨g19, 4, none⟩ (.int .i64 t369)) ⟨g19, 5, none⟩ (.int .i64 t353)) ⟨g19, 6, none⟩ (.int .i64 t412)) ⟨g19, 7, none⟩ (.int .i64 t508)) := (hq6).set1 (l1 := [blk g16 #[.int .i64 a12, .int .i64 a13, .int .i64 a14, .int .i64 a15] 32]) (l2 := [blk g73 #[.int .i64 a12, .int .i64 a13] 3, blk g150 #[.int .i64 24, .int .i64 a14, .int .i64 t147] 3, blk g176 #[.int .i64 t173, .int .i64 (wrap64 (a13 - 8)), .int .i64 (wrap64 ((wrap64 (a13 - 8)) + 1)), .int .i64 t342, .int .i64 t369, .int .i64 t353, .int .i64 t412, .int .i64 t508] 38, blk g339 #[.int .i64 (wrap64 (a13 - 8)), .int .i64 (wrap64 (a13 - 1))] 3, blk g350 #[.int .i64 a12, .int .i64 (wrap64 (a13 + 1))] 3, blk g360 #[.int .i64 3, .int .i64 t353] 3, blk g366 #[.int .i64 t363, .int .i64 4] 3, blk g397 #[.int .i64 2, .int .i64 t394] 3, blk g403 #[.int .i64 2, .int .i64 (wrap64 ((wrap64 (a13 - 8)) + 1))] 3, blk g409 #[.int .i64 t400, .int .i64 t406] 3, blk g496 #[.int .i64 t369, .int .i64 t369, .int .i64 t353] 3, blk g505 #[.int .i64 t502, .int .i64 2] 3]) 7 (.int .i64 t508); have HS_ : Aside0 (Sep (fps []) w [blk g16 #[.int .i64 a12, .int .i64 a13, .int .i64 a14, .int .i64 a15] 32, blk g19 #[.int .i64 t173, .int .i64 (wrap64 (a13 - 8)), .int .i64 (wrap64 ((wrap64 (a13 - 8)) + 1)), .int .i64 t342, .int .i64 t369, .int .i64 t353, .int .i64 t412, .int .i64 t508] 38, blk g73 #[.int .i64 a12, .int .i64 a13] 3, blk g150 #[.int .i64 24, .int .i64 a14, .int .i64 t147] 3, blk g176 #[.int .i64 t173, .int .i64 (wrap64 (a13 - 8)), .int .i64 (wrap64 ((wrap64 (a13 - 8)) + 1)), .int .i64 t342, .int .i64 t369, .int .i64 t353, .int .i64 t412, .int .i64 t508] 38, blk g339 #[.int .i64 (wrap64 (a13 - 8)), .int .i64 (wrap64 (a13 - 1))] 3, blk g350 #[.int .i64 a12, .int .i64 (wrap64 (a13 + 1))] 3, blk g360 #[.int .i64 3, .int .i64 t353] 3, blk g366 #[.int .i64 t363, .int .i64 4] 3, blk g397 #[.int .i64 2, .int .i64 t394] 3, blk g403 #[.int .i64 2, .int .i64 (wrap64 ((wrap64 (a13 - 8)) + 1))] 3, blk g409 #[.int .i64 t400, .int .i64 t406] 3, blk g496 #[.int .i64 t369, .int .i64 t369, .int .i64 t353] 3, blk g505 #[.int .i64 t502, .int .i64 2] 3] w538) := ⟨by rw [hst]; exact hq7⟩; clear hq0 hq1 hq2 hq3 hq4 hq5 hq6 hq7; clear HS hst; have HS := HS_; clear HS_))
        have hc539 : w538.cell? ⟨g19, 0, none⟩ = some (.int .i64 t173) := blk_cellv (HS.out.at1) 0 rfl
        have hc540 : w538.cell? ⟨g19, 1, none⟩ = some (.int .i64 (wrap64 (a13 - 8))) := blk_cellv (HS.out.at1) 1 rfl
        have hc541 : w538.cell? ⟨g19, 2, none⟩ = some (.int .i64 (wrap64 ((wrap64 (a13 - 8)) + 1))) := blk_cellv (HS.out.at1) 2 rfl
        have hc542 : w538.cell? ⟨g19, 3, none⟩ = some (.int .i64 t342) := blk_cellv (HS.out.at1) 3 rfl
        have hc543 : w538.cell? ⟨g19, 4, none⟩ = some (.int .i64 t369) := blk_cellv (HS.out.at1) 4 rfl
        have hc544 : w538.cell? ⟨g19, 5, none⟩ = some (.int .i64 t353) := blk_cellv (HS.out.at1) 5 rfl
        have hc545 : w538.cell? ⟨g19, 6, none⟩ = some (.int .i64 t412) := blk_cellv (HS.out.at1) 6 rfl
        have hc546 : w538.cell? ⟨g19, 7, none⟩ = some (.int .i64 t508) := blk_cellv (HS.out.at1) 7 rfl
        refine bodyPost_ret (v := .tuple #[.agg #[.int .i64 t173, .int .i64 (wrap64 (a13 - 8)), .int .i64 (wrap64 ((wrap64 (a13 - 8)) + 1)), .int .i64 t342, .int .i64 t369, .int .i64 t353, .int .i64 t412, .int .i64 t508], .int .i64 0]) (by simp [results, Try.results21, go_sem, hc539, hc540, hc541, hc542, hc543, hc544, hc545, hc546]) rfl ?_
        rw [← some_eq H]
        exact ⟨(by first | rfl | (simp [IntKind.wrap_u32]; done)), (HS.out).keep (l := []) (rest := [blk g16 #[.int .i64 a12, .int .i64 a13, .int .i64 a14, .int .i64 a15] 32, blk g19 #[.int .i64 t173, .int .i64 (wrap64 (a13 - 8)), .int .i64 (wrap64 ((wrap64 (a13 - 8)) + 1)), .int .i64 t342, .int .i64 t369, .int .i64 t353, .int .i64 t412, .int .i64 t508] 38, blk g73 #[.int .i64 a12, .int .i64 a13] 3, blk g150 #[.int .i64 24, .int .i64 a14, .int .i64 t147] 3, blk g176 #[.int .i64 t173, .int .i64 (wrap64 (a13 - 8)), .int .i64 (wrap64 ((wrap64 (a13 - 8)) + 1)), .int .i64 t342, .int .i64 t369, .int .i64 t353, .int .i64 t412, .int .i64 t508] 38, blk g339 #[.int .i64 (wrap64 (a13 - 8)), .int .i64 (wrap64 (a13 - 1))] 3, blk g350 #[.int .i64 a12, .int .i64 (wrap64 (a13 + 1))] 3, blk g360 #[.int .i64 3, .int .i64 t353] 3, blk g366 #[.int .i64 t363, .int .i64 4] 3, blk g397 #[.int .i64 2, .int .i64 t394] 3, blk g403 #[.int .i64 2, .int .i64 (wrap64 ((wrap64 (a13 - 8)) + 1))] 3, blk g409 #[.int .i64 t400, .int .i64 t406] 3, blk g496 #[.int .i64 t369, .int .i64 t369, .int .i64 t353] 3, blk g505 #[.int .i64 t502, .int .i64 2] 3])⟩
  · have H := if_no c70 H
    have c70b0 : (t67 == 0) = false := beq_eq_false_iff_ne.mpr c70
    have c70b1 : (t67 != 0) = true := bne_iff_ne.mpr c70
    clear c70
    have hc547 : w69.cell? ⟨g19, 0, none⟩ = some (.int .i64 0) := blk_cellv (HS.out.at1) 0 rfl
    have hz548 : w69.frozen? ⟨g19, 0, none⟩ = false := blk_fz (HS.out.at1) 0
    have hc549 : w69.cell? ⟨g19, 1, none⟩ = some (.int .i64 0) := blk_cellv (HS.out.at1) 1 rfl
    have hz550 : w69.frozen? ⟨g19, 1, none⟩ = false := blk_fz (HS.out.at1) 1
    have hc551 : w69.cell? ⟨g19, 2, none⟩ = some (.int .i64 0) := blk_cellv (HS.out.at1) 2 rfl
    have hz552 : w69.frozen? ⟨g19, 2, none⟩ = false := blk_fz (HS.out.at1) 2
    have hc553 : w69.cell? ⟨g19, 3, none⟩ = some (.int .i64 0) := blk_cellv (HS.out.at1) 3 rfl
    have hz554 : w69.frozen? ⟨g19, 3, none⟩ = false := blk_fz (HS.out.at1) 3
    have hc555 : w69.cell? ⟨g19, 4, none⟩ = some (.int .i64 0) := blk_cellv (HS.out.at1) 4 rfl
    have hz556 : w69.frozen? ⟨g19, 4, none⟩ = false := blk_fz (HS.out.at1) 4
    have hc557 : w69.cell? ⟨g19, 5, none⟩ = some (.int .i64 0) := blk_cellv (HS.out.at1) 5 rfl
    have hz558 : w69.frozen? ⟨g19, 5, none⟩ = false := blk_fz (HS.out.at1) 5
    have hc559 : w69.cell? ⟨g19, 6, none⟩ = some (.int .i64 0) := blk_cellv (HS.out.at1) 6 rfl
    have hz560 : w69.frozen? ⟨g19, 6, none⟩ = false := blk_fz (HS.out.at1) 6
    have hc561 : w69.cell? ⟨g19, 7, none⟩ = some (.int .i64 0) := blk_cellv (HS.out.at1) 7 rfl
    have hz562 : w69.frozen? ⟨g19, 7, none⟩ = false := blk_fz (HS.out.at1) 7
    go_wp2_with (first | ((with_reducible refine gate_store (t := 38) (p := 2) rfl ?_); refine store_event (w1 := (World.setCell (World.setCell (World.setCell (World.setCell (World.setCell (World.setCell (World.setCell (World.setCell w69 ⟨g19, 0, none⟩ (.int .i64 0)) ⟨g19, 1, none⟩ (.int .i64 0)) ⟨g19, 2, none⟩ (.int .i64 0)) ⟨g19, 3, none⟩ (.int .i64 0)) ⟨g19, 4, none⟩ (.int .i64 0)) ⟨g19, 5, none⟩ (.int .i64 0)) ⟨g19, 6, none⟩ (.int .i64 0)) ⟨g19, 7, none⟩ (.int .i64 0))) rfl (t := 38) (p := 2) rfl rfl ?hr ?_; (case hr => first | (go_simp; done) | (go_simp; rfl)); intro w563 hst; clear hc547 hz548 hc549 hz550 hc551 hz552 hc553 hz554 hc555 hz556 hc557 hz558 hc559 hz560 hc561 hz562; have hq0 : Sep (fps []) w [blk g16 #[.int .i64 a12, .int .i64 a13, .int .i64 a14, .int .i64 a15] 32, blk g19 #[.int .i64 0, .int .i64 0, .int .i64 0, .int .i64 0, .int .i64 0, .int .i64 0, .int .i64 0, .int .i64 0] 38] (World.setCell w69 ⟨g19, 0, none⟩ (.int .i64 0)) := (HS.out).set1 (l1 := [blk g16 #[.int .i64 a12, .int .i64 a13, .int .i64 a14, .int .i64 a15] 32]) (l2 := []) 0 (.int .i64 0); have hq1 : Sep (fps []) w [blk g16 #[.int .i64 a12, .int .i64 a13, .int .i64 a14, .int .i64 a15] 32, blk g19 #[.int .i64 0, .int .i64 0, .int .i64 0, .int .i64 0, .int .i64 0, .int .i64 0, .int .i64 0, .int .i64 0] 38] (World.setCell (World.setCell w69 ⟨g19, 0, none⟩ (.int .i64 0)) ⟨g19, 1, none⟩ (.int .i64 0)) := (hq0).set1 (l1 := [blk g16 #[.int .i64 a12, .int .i64 a13, .int .i64 a14, .int .i64 a15] 32]) (l2 := []) 1 (.int .i64 0); have hq2 : Sep (fps []) w [blk g16 #[.int .i64 a12, .int .i64 a13, .int .i64 a14, .int .i64 a15] 32, blk g19 #[.int .i64 0, .int .i64 0, .int .i64 0, .int .i64 0, .int .i64 0, .int .i64 0, .int .i64 0, .int .i64 0] 38] (World.setCell (World.setCell (World.setCell w69 ⟨g19, 0, none⟩ (.int .i64 0)) ⟨g19, 1, none⟩ (.int .i64 0)) ⟨g19, 2, none⟩ (.int .i64 0)) := (hq1).set1 (l1 := [blk g16 #[.int .i64 a12, .int .i64 a13, .int .i64 a14, .int .i64 a15] 32]) (l2 := []) 2 (.int .i64 0); have hq3 : Sep (fps []) w [blk g16 #[.int .i64 a12, .int .i64 a13, .int .i64 a14, .int .i64 a15] 32, blk g19 #[.int .i64 0, .int .i64 0, .int .i64 0, .int .i64 0, .int .i64 0, .int .i64 0, .int .i64 0, .int .i64 0] 38] (World.setCell (World.setCell (World.setCell (World.setCell w69 ⟨g19, 0, none⟩ (.int .i64 0)) ⟨g19, 1, none⟩ (.int .i64 0)) ⟨g19, 2, none⟩ (.int .i64 0)) ⟨g19, 3, none⟩ (.int .i64 0)) := (hq2).set1 (l1 := [blk g16 #[.int .i64 a12, .int .i64 a13, .int .i64 a14, .int .i64 a15] 32]) (l2 := []) 3 (.int .i64 0); have hq4 : Sep (fps []) w [blk g16 #[.int .i64 a12, .int .i64 a13, .int .i64 a14, .int .i64 a15] 32, blk g19 #[.int .i64 0, .int .i64 0, .int .i64 0, .int .i64 0, .int .i64 0, .int .i64 0, .int .i64 0, .int .i64 0] 38] (World.setCell (World.setCell (World.setCell (World.setCell (World.setCell w69 ⟨g19, 0, none⟩ (.int .i64 0)) ⟨g19, 1, none⟩ (.int .i64 0)) ⟨g19, 2, none⟩ (.int .i64 0)) ⟨g19, 3, none⟩ (.int .i64 0)) ⟨g19, 4, none⟩ (.int .i64 0)) := (hq3).set1 (l1 := [blk g16 #[.int .i64 a12, .int .i64 a13, .int .i64 a14, .int .i64 a15] 32]) (l2 := []) 4 (.int .i64 0); have hq5 : Sep (fps []) w [blk g16 #[.int .i64 a12, .int .i64 a13, .int .i64 a14, .int .i64 a15] 32, blk g19 #[.int .i64 0, .int .i64 0, .int .i64 0, .int .i64 0, .int .i64 0, .int .i64 0, .int .i64 0, .int .i64 0] 38] (World.setCell (World.setCell (World.setCell (World.setCell (World.setCell (World.setCell w69 ⟨g19, 0, none⟩ (.int .i64 0)) ⟨g19, 1, none⟩ (.int .i64 0)) ⟨g19, 2, none⟩ (.int .i64 0)) ⟨g19, 3, none⟩ (.int .i64 0)) ⟨g19, 4, none⟩ (.int .i64 0)) ⟨g19, 5, none⟩ (.int .i64 0)) := (hq4).set1 (l1 := [blk g16 #[.int .i64 a12, .int .i64 a13, .int .i64 a14, .int .i64 a15] 32]) (l2 := []) 5 (.int .i64 0); have hq6 : Sep (fps []) w [blk g16 #[.int .i64 a12, .int .i64 a13, .int .i64 a14, .int .i64 a15] 32, blk g19 #[.int .i64 0, .int .i64 0, .int .i64 0, .int .i64 0, .int .i64 0, .int .i64 0, .int .i64 0, .int .i64 0] 38] (World.setCell (World.setCell (World.setCell (World.setCell (World.setCell (World.setCell (World.setCell w69 ⟨g19, 0, none⟩ (.int .i64 0)) ⟨g19, 1, none⟩ (.int .i64 0)) ⟨g19, 2, none⟩ (.int .i64 0)) ⟨g19, 3, none⟩ (.int .i64 0)) ⟨g19, 4, none⟩ (.int .i64 0)) ⟨g19, 5, none⟩ (.int .i64 0)) ⟨g19, 6, none⟩ (.int .i64 0)) := (hq5).set1 (l1 := [blk g16 #[.int .i64 a12, .int .i64 a13, .int .i64 a14, .int .i64 a15] 32]) (l2 := []) 6 (.int .i64 0); have hq7 : Sep (fps []) w [blk g16 #[.int .i64 a12, .int .i64 a13, .int .i64 a14, .int .i64 a15] 32, blk g19 #[.int .i64 0, .int .i64 0, .int .i64 0, .int .i64 0, .int .i64 0, .int .i64 0, .int .i64 0, .int .i64 0] 38] (World.setCell (World.setCell (World.setCell (World.setCell (World.setCell (World.setCell (World.setCell (World.setCell w69 ⟨g19, 0, none⟩ (.int .i64 0)) ⟨g19, 1, none⟩ (.int .i64 0)) ⟨g19, 2, none⟩ (.int .i64 0)) ⟨g19, 3, none⟩ (.int .i64 0)) ⟨g19, 4, none⟩ (.int .i64 0)) ⟨g19, 5, none⟩ (.int .i64 0)) ⟨g19, 6, none⟩ (.int .i64 0)) ⟨g19, 7, none⟩ (.int .i64 0)) := (hq6).set1 (l1 := [blk g16 #[.int .i64 a12, .int .i64 a13, .int .i64 a14, .int .i64 a15] 32]) (l2 := []) 7 (.int .i64 0); have HS_ : Aside0 (Sep (fps []) w [blk g16 #[.int .i64 a12, .int .i64 a13, .int .i64 a14, .int .i64 a15] 32, blk g19 #[.int .i64 0, .int .i64 0, .int .i64 0, .int .i64 0, .int .i64 0, .int .i64 0, .int .i64 0, .int .i64 0] 38] w563) := ⟨by rw [hst]; exact hq7⟩; clear hq0 hq1 hq2 hq3 hq4 hq5 hq6 hq7; clear HS hst; have HS := HS_; clear HS_))
    have hc564 : w563.cell? ⟨g19, 0, none⟩ = some (.int .i64 0) := blk_cellv (HS.out.at1) 0 rfl
    have hc565 : w563.cell? ⟨g19, 1, none⟩ = some (.int .i64 0) := blk_cellv (HS.out.at1) 1 rfl
    have hc566 : w563.cell? ⟨g19, 2, none⟩ = some (.int .i64 0) := blk_cellv (HS.out.at1) 2 rfl
    have hc567 : w563.cell? ⟨g19, 3, none⟩ = some (.int .i64 0) := blk_cellv (HS.out.at1) 3 rfl
    have hc568 : w563.cell? ⟨g19, 4, none⟩ = some (.int .i64 0) := blk_cellv (HS.out.at1) 4 rfl
    have hc569 : w563.cell? ⟨g19, 5, none⟩ = some (.int .i64 0) := blk_cellv (HS.out.at1) 5 rfl
    have hc570 : w563.cell? ⟨g19, 6, none⟩ = some (.int .i64 0) := blk_cellv (HS.out.at1) 6 rfl
    have hc571 : w563.cell? ⟨g19, 7, none⟩ = some (.int .i64 0) := blk_cellv (HS.out.at1) 7 rfl
    refine bodyPost_ret (v := .tuple #[.agg #[.int .i64 0, .int .i64 0, .int .i64 0, .int .i64 0, .int .i64 0, .int .i64 0, .int .i64 0, .int .i64 0], .int .i64 t67]) (by simp [results, Try.results21, go_sem, hc564, hc565, hc566, hc567, hc568, hc569, hc570, hc571]) rfl ?_
    rw [← some_eq H]
    exact ⟨(by first | rfl | (simp [IntKind.wrap_u32]; done)), (HS.out).keep (l := []) (rest := [blk g16 #[.int .i64 a12, .int .i64 a13, .int .i64 a14, .int .i64 a15] 32, blk g19 #[.int .i64 0, .int .i64 0, .int .i64 0, .int .i64 0, .int .i64 0, .int .i64 0, .int .i64 0, .int .i64 0] 38])⟩
end Go.Proofs.Ytgkpcboaiaiahab.C

/- Each function of the group Tune does what its plain function says, and changes nothing that was there; proved by walking its code. No condition. -/
import Derived.Test.YtgkpcboaiaiahabQw
import Derived.Test.YtgkpcboaiaiahabMTune
import Derived.Test.YtgkpcboaiaiahabGTune0
namespace Go.Proofs.Ytgkpcboaiaiahab.C
open Go.RowKit Go.Proofs.YtgkpcboaiaiahabW.PrintWords Go.Proofs.YtgkpcboaiaiahabW.PrintLast Go.Proofs.YtgkpcboaiaiahabW.PrintMore Go.Proofs.Ytgkpcboaiaiahab.Q Go.Proofs.Ytgkpcboaiaiahab.M
set_option linter.unusedVariables false
set_option linter.unusedSimpArgs false
set_option maxHeartbeats 4000000 in
set_option maxRecDepth 100000 in
theorem plan_Of.calls (k : Nat) (a183 : Int) (a184 : Int) (a185 : Int) (a186 : Int) (r : Int × Int × Int × Int × Int × Int × Int × Int × Int) (w : World)  (HS : Aside0 (Sep (fps []) w [] w)) (H : Aside0 (plan_Of.f k a183 a184 a185 a186 = some r)) :
    Calls Try.prog 21 #[.agg #[.int .i64 a183, .int .i64 a184, .int .i64 a185, .int .i64 a186]] w fun e w' => e = .returned (.tuple #[.agg #[.int .i64 r.1, .int .i64 r.2.1, .int .i64 r.2.2.1, .int .i64 r.2.2.2.1, .int .i64 r.2.2.2.2.1, .int .i64 r.2.2.2.2.2.1, .int .i64 r.2.2.2.2.2.2.1, .int .i64 r.2.2.2.2.2.2.2.1], .int .i64 r.2.2.2.2.2.2.2.2]) ∧ Sep (fps []) w [] w' := by
  unfold plan_Of.f at H
  go_enter Try.func21, Try.ntmps21
  go_wp2_with (first | ((with_reducible refine gate_dst (N := 1) rfl ?_); refine box_on ?hg (N := 1) ?hd (cs := #[.int .i64 a183, .int .i64 a184, .int .i64 a185, .int .i64 a186]) (t := 32) ?hr ?_; (case hd => rfl); (case hg => rfl); (case hr => first | (go_simp; done) | (go_simp; rfl)); intro g187 hg w188 hbox hb; have HS_ : Aside0 (Sep (fps []) w [blk g187 #[.int .i64 a183, .int .i64 a184, .int .i64 a185, .int .i64 a186] 32] w188) := ⟨HS.out.box hg hbox hb⟩; clear HS hg hbox hb; have HS := HS_; clear HS_) | ((with_reducible refine gate_dst (N := 2) rfl ?_); refine box_on ?hg (N := 2) ?hd (cs := #[.int .i64 0, .int .i64 0, .int .i64 0, .int .i64 0, .int .i64 0, .int .i64 0, .int .i64 0, .int .i64 0]) (t := 38) ?hr ?_; (case hd => rfl); (case hg => rfl); (case hr => first | (go_simp; done) | (go_simp; rfl)); intro g190 hg w191 hbox hb; have HS_ : Aside0 (Sep (fps []) w [blk g187 #[.int .i64 a183, .int .i64 a184, .int .i64 a185, .int .i64 a186] 32, blk g190 #[.int .i64 0, .int .i64 0, .int .i64 0, .int .i64 0, .int .i64 0, .int .i64 0, .int .i64 0, .int .i64 0] 38] w191) := ⟨HS.out.box hg hbox hb⟩; clear HS hg hbox hb; have HS := HS_; clear HS_; have hc193 : w191.cell? ⟨g187, 0, none⟩ = some (.int .i64 a183) := blk_cellv (HS.out.at0) 0 rfl; have hc194 : w191.cell? ⟨g187, 1, none⟩ = some (.int .i64 a184) := blk_cellv (HS.out.at0) 1 rfl; have hc195 : w191.cell? ⟨g187, 2, none⟩ = some (.int .i64 a185) := blk_cellv (HS.out.at0) 2 rfl; have hc196 : w191.cell? ⟨g187, 3, none⟩ = some (.int .i64 a186) := blk_cellv (HS.out.at0) 3 rfl))
  clear hc193 hc194 hc195 hc196
  obtain ⟨t197, HA198, H⟩ := bind_some H
  refine (plan_Check.calls a183 a184 a185 a186 t197 _ ⟨HS.out.begin (l := []) (rest := [blk g187 #[.int .i64 a183, .int .i64 a184, .int .i64 a185, .int .i64 a186] 32, blk g190 #[.int .i64 0, .int .i64 0, .int .i64 0, .int .i64 0, .int .i64 0, .int .i64 0, .int .i64 0, .int .i64 0] 38])⟩ HA198).mono ?_
  rintro e_ w199 ⟨rfl, hS⟩
  have HS_ : Aside0 (Sep (fps []) w [blk g187 #[.int .i64 a183, .int .i64 a184, .int .i64 a185, .int .i64 a186] 32, blk g190 #[.int .i64 0, .int .i64 0, .int .i64 0, .int .i64 0, .int .i64 0, .int .i64 0, .int .i64 0, .int .i64 0] 38] w199) := ⟨HS.out.call (l := []) (rest := [blk g187 #[.int .i64 a183, .int .i64 a184, .int .i64 a185, .int .i64 a186] 32, blk g190 #[.int .i64 0, .int .i64 0, .int .i64 0, .int .i64 0, .int .i64 0, .int .i64 0, .int .i64 0, .int .i64 0] 38]) hS⟩
  clear HS hS
  have HS := HS_
  clear HS_
  by_cases c200 : t197 = 0
  · have H := if_yes c200 H
    have c200b0 : (t197 == 0) = true := beq_iff_eq.mpr c200
    have c200b1 : (t197 != 0) = false := bne_eq_false_iff_eq.mpr c200
    clear c200
    go_wp2_with fail
    obtain ⟨t277, HA278, H⟩ := bind_some H
    obtain ⟨t303, HA304, H⟩ := bind_some H
    go_cut [5] (fun v5 wc => ∃ (g203 : Nat) (g280 : Nat) (g306 : Nat), v5 = .pointer (some ⟨g306, 0, none⟩) ∧ Aside0 (Sep (fps []) w [blk g187 #[.int .i64 a183, .int .i64 a184, .int .i64 a185, .int .i64 a186] 32, blk g190 #[.int .i64 0, .int .i64 0, .int .i64 0, .int .i64 0, .int .i64 0, .int .i64 0, .int .i64 0, .int .i64 0] 38, blk g203 #[.int .i64 a183, .int .i64 a184] 3, blk g280 #[.int .i64 24, .int .i64 a185, .int .i64 t277] 3, blk g306 #[.int .i64 t303, .int .i64 (wrap64 (a184 - 8)), .int .i64 0, .int .i64 0, .int .i64 0, .int .i64 0, .int .i64 0, .int .i64 0] 38] wc))
    case first =>
      go_wp2_with fail
      refine start_ (n := 16) (S := (fun w' => w'.cell? ⟨g187, 2, none⟩ = some (.int .i64 a185) ∧ w'.cell? ⟨g187, 0, none⟩ = some (.int .i64 a183) ∧ w'.cell? ⟨g187, 1, none⟩ = some (.int .i64 a184))) (ds := []) #[false, false, false, false, false, false, false, false, false, false, false, false, false, false, false, false] (by kernel_rfl) rfl rfl (⟨blk_cellv ((HS.out.drew).at0) 2 rfl, blk_cellv ((HS.out.drew).at0) 0 rfl, blk_cellv ((HS.out.drew).at0) 1 rfl⟩) (fun hHeld => ?_)
      have HS_ := Aside0.mk HS.out.drew
      clear HS
      generalize World.drew _ = w328 at HS_ hHeld ⊢
      have HS := HS_
      clear HS_
      refine pure_ (i := 0) (N := some 12) (v := ?_) (a' := ?_) #[true, false, false, false, false, false, false, false, false, false, false, false, false, false, false, false] rfl rfl (by kernel_rfl) (fun _ _ _ h => h) (Or.inl ⟨by rfl, ?_⟩) ?_ ?_
      rotate_left
      · intro w'
        go_simp
        with_reducible rfl
      rotate_left
      · simp only [Act.put, List.setIfInBounds_toArray, List.set_cons_zero, List.set_cons_succ, i64_w, i32_w]
        rfl
      refine pure_ (i := 2) (N := some 14) (v := ?_) (a' := ?_) #[true, false, true, false, false, false, false, false, false, false, false, false, false, false, false, false] rfl rfl (by kernel_rfl) (fun _ _ _ h => h) (Or.inl ⟨by rfl, ?_⟩) ?_ ?_
      rotate_left
      · intro w'
        go_simp
        with_reducible rfl
      rotate_left
      · simp only [Act.put, List.setIfInBounds_toArray, List.set_cons_zero, List.set_cons_succ, i64_w, i32_w]
        rfl
      refine pure_ (i := 4) (N := some 16) (v := ?_) (a' := ?_) #[true, false, true, false, true, false, false, false, false, false, false, false, false, false, false, false] rfl rfl (by kernel_rfl) (fun _ _ _ h => h) (Or.inl ⟨by rfl, ?_⟩) ?_ ?_
      rotate_left
      · intro w'
        go_simp
        with_reducible rfl
      rotate_left
      · simp only [Act.put, List.setIfInBounds_toArray, List.set_cons_zero, List.set_cons_succ, i64_w, i32_w]
        rfl
      refine pure_ (i := 10) (N := some 22) (v := ?_) (a' := ?_) #[true, false, true, false, true, false, false, false, false, false, true, false, false, false, false, false] rfl rfl (by kernel_rfl) (fun _ _ _ h => h) (Or.inl ⟨by rfl, ?_⟩) ?_ ?_
      rotate_left
      · intro w'
        go_simp
        with_reducible rfl
      rotate_left
      · simp only [Act.put, List.setIfInBounds_toArray, List.set_cons_zero, List.set_cons_succ, i64_w, i32_w]
        rfl
      refine take_ (i := 1) (N := some 13) (v := ?_) (a' := ?_) #[true, true, true, false, true, false, false, false, false, false, true, false, false, false, false, false] rfl rfl (by kernel_rfl) (fun _ _ _ h => h) (Or.inl ⟨by rfl, ?_⟩) hHeld ?_ ?_
      rotate_left
      · rintro w' hS'
        obtain ⟨s0, s1, s2⟩ := hS'
        go_simp
        with_reducible rfl
      rotate_left
      · simp only [Act.put, List.setIfInBounds_toArray, List.set_cons_zero, List.set_cons_succ, i64_w, i32_w]
        rfl
      refine take_ (i := 3) (N := some 15) (v := ?_) (a' := ?_) #[true, true, true, true, true, false, false, false, false, false, true, false, false, false, false, false] rfl rfl (by kernel_rfl) (fun _ _ _ h => h) (Or.inl ⟨by rfl, ?_⟩) hHeld ?_ ?_
      rotate_left
      · rintro w' hS'
        obtain ⟨s0, s1, s2⟩ := hS'
        go_simp
        with_reducible rfl
      rotate_left
      · simp only [Act.put, List.setIfInBounds_toArray, List.set_cons_zero, List.set_cons_succ, i64_w, i32_w]
        rfl
      refine take_ (i := 5) (N := some 17) (v := ?_) (a' := ?_) #[true, true, true, true, true, true, false, false, false, false, true, false, false, false, false, false] rfl rfl (by kernel_rfl) (fun _ _ _ h => h) (Or.inl ⟨by rfl, ?_⟩) hHeld ?_ ?_
      rotate_left
      · rintro w' hS'
        obtain ⟨s0, s1, s2⟩ := hS'
        go_simp
        with_reducible rfl
      rotate_left
      · simp only [Act.put, List.setIfInBounds_toArray, List.set_cons_zero, List.set_cons_succ, i64_w, i32_w]
        rfl
      refine take_ (i := 11) (N := some 23) (v := ?_) (a' := ?_) #[true, true, true, true, true, true, false, false, false, false, true, true, false, false, false, false] rfl rfl (by kernel_rfl) (fun _ _ _ h => h) (Or.inl ⟨by rfl, ?_⟩) hHeld ?_ ?_
      rotate_left
      · rintro w' hS'
        obtain ⟨s0, s1, s2⟩ := hS'
        go_simp
        with_reducible rfl
      rotate_left
      · simp only [Act.put, List.setIfInBounds_toArray, List.set_cons_zero, List.set_cons_succ, i64_w, i32_w]
        rfl
      refine pure_ (i := 12) (N := some 24) (v := ?_) (a' := ?_) #[true, true, true, true, true, true, false, false, false, false, true, true, true, false, false, false] rfl rfl (by kernel_rfl) (fun _ _ _ h => h) (Or.inl ⟨by rfl, ?_⟩) ?_ ?_
      rotate_left
      · intro w'
        go_simp
        with_reducible rfl
      rotate_left
      · simp only [Act.put, List.setIfInBounds_toArray, List.set_cons_zero, List.set_cons_succ, i64_w, i32_w]
        rfl
      refine two_ (i := 6) (j := 14) (Ni := some 18) (Nj := some 5) #[true, true, true, true, true, true, true, false, false, false, true, true, true, false, false, false] #[true, true, true, true, true, true, false, false, false, false, true, true, true, false, true, false] rfl rfl rfl rfl (by kernel_rfl) (by decide) (by decide) (fun K hK => ?_) (fun K hK => ?_)
      · refine slice_step (n := 2) (by rfl) (N := 18) rfl (cs := #[.int .i64 a183, .int .i64 a184]) (t := 3) ?hr ?_
        case hr => first | (go_simp; done) | (go_simp; rfl)
        intro g329 hg w330 hbox hb
        have HS_ : Aside0 (Sep (fps []) w [blk g187 #[.int .i64 a183, .int .i64 a184, .int .i64 a185, .int .i64 a186] 32, blk g190 #[.int .i64 0, .int .i64 0, .int .i64 0, .int .i64 0, .int .i64 0, .int .i64 0, .int .i64 0, .int .i64 0] 38, blk g329 #[.int .i64 a183, .int .i64 a184] 3] w330) := ⟨HS.out.box hg hbox hb⟩
        clear HS hg hbox hb
        have HS := HS_
        clear HS_
        refine hK.out _ _ (⟨blk_cellv (HS.out.at0) 2 rfl, blk_cellv (HS.out.at0) 0 rfl, blk_cellv (HS.out.at0) 1 rfl⟩) (fun hHeld => ?_)
        clear hK K
        refine norm_ (a' := ?_) ?_ ?_
        rotate_left
        · show Act.put _ (some 18) _ = _
          simp only [Act.put, List.setIfInBounds_toArray, List.set_cons_zero, List.set_cons_succ, i64_w, i32_w]
          rfl
        refine two_ (i := 7) (j := 14) (Ni := some 19) (Nj := some 5) #[true, true, true, true, true, true, true, true, false, false, true, true, true, false, false, false] #[true, true, true, true, true, true, true, false, false, false, true, true, true, false, true, false] rfl rfl rfl rfl (by kernel_rfl) (by decide) (by decide) (fun K hK => ?_) (fun K hK => ?_)
        · refine goes_ Try.func42 (by kernel_rfl) rfl #[.slice (some ⟨g329, 0, none⟩) 2 2] (by rfl) rfl rfl (by (try simp only [List.map_toArray, List.map_cons, List.map_nil]); first | done | rfl) ?_
          refine (ratio_Mul.calls _ [a183, a184] (some ⟨g329, 0, none⟩) 2 t277 _ ⟨C_of_blk (xs := [a183, a184]) (HS.out.at2) (by simp)⟩ ⟨HS.out.begin (l := []) (rest := [blk g187 #[.int .i64 a183, .int .i64 a184, .int .i64 a185, .int .i64 a186] 32, blk g190 #[.int .i64 0, .int .i64 0, .int .i64 0, .int .i64 0, .int .i64 0, .int .i64 0, .int .i64 0, .int .i64 0] 38, blk g329 #[.int .i64 a183, .int .i64 a184] 3])⟩ HA278).mono ?_
          rintro e_ w333 ⟨rfl, hS⟩
          have HS_ : Aside0 (Sep (fps []) w [blk g187 #[.int .i64 a183, .int .i64 a184, .int .i64 a185, .int .i64 a186] 32, blk g190 #[.int .i64 0, .int .i64 0, .int .i64 0, .int .i64 0, .int .i64 0, .int .i64 0, .int .i64 0, .int .i64 0] 38, blk g329 #[.int .i64 a183, .int .i64 a184] 3] w333) := ⟨HS.out.call (l := []) (rest := [blk g187 #[.int .i64 a183, .int .i64 a184, .int .i64 a185, .int .i64 a186] 32, blk g190 #[.int .i64 0, .int .i64 0, .int .i64 0, .int .i64 0, .int .i64 0, .int .i64 0, .int .i64 0, .int .i64 0] 38, blk g329 #[.int .i64 a183, .int .i64 a184] 3]) hS⟩
          clear HS hS
          have HS := HS_
          clear HS_
          refine ⟨_, rfl, ?_⟩
          refine hK.out _ _ (⟨blk_cellv (HS.out.at0) 2 rfl, blk_cellv (HS.out.at0) 0 rfl, blk_cellv (HS.out.at0) 1 rfl⟩) (fun hHeld => ?_)
          clear hK K
          refine norm_ (a' := ?_) ?_ ?_
          rotate_left
          · show Act.put _ (some 19) _ = _
            simp only [Act.put, List.setIfInBounds_toArray, List.set_cons_zero, List.set_cons_succ, i64_w, i32_w]
            rfl
          refine two_ (i := 8) (j := 14) (Ni := some 20) (Nj := some 5) #[true, true, true, true, true, true, true, true, true, false, true, true, true, false, false, false] #[true, true, true, true, true, true, true, true, false, false, true, true, true, false, true, false] rfl rfl rfl rfl (by kernel_rfl) (by decide) (by decide) (fun K hK => ?_) (fun K hK => ?_)
          · refine slice_step (n := 3) (by rfl) (N := 20) rfl (cs := #[.int .i64 24, .int .i64 a185, .int .i64 t277]) (t := 3) ?hr ?_
            case hr => first | (go_simp; done) | (go_simp; rfl)
            intro g334 hg w335 hbox hb
            have HS_ : Aside0 (Sep (fps []) w [blk g187 #[.int .i64 a183, .int .i64 a184, .int .i64 a185, .int .i64 a186] 32, blk g190 #[.int .i64 0, .int .i64 0, .int .i64 0, .int .i64 0, .int .i64 0, .int .i64 0, .int .i64 0, .int .i64 0] 38, blk g329 #[.int .i64 a183, .int .i64 a184] 3, blk g334 #[.int .i64 24, .int .i64 a185, .int .i64 t277] 3] w335) := ⟨HS.out.box hg hbox hb⟩
            clear HS hg hbox hb
            have HS := HS_
            clear HS_
            refine hK.out _ _ (⟨blk_cellv (HS.out.at0) 2 rfl, blk_cellv (HS.out.at0) 0 rfl, blk_cellv (HS.out.at0) 1 rfl⟩) (fun hHeld => ?_)
            clear hK K
            refine norm_ (a' := ?_) ?_ ?_
            rotate_left
            · show Act.put _ (some 20) _ = _
              simp only [Act.put, List.setIfInBounds_toArray, List.set_cons_zero, List.set_cons_succ, i64_w, i32_w]
              rfl
            refine two_ (i := 9) (j := 14) (Ni := some 21) (Nj := some 5) #[true, true, true, true, true, true, true, true, true, true, true, true, true, false, false, false] #[true, true, true, true, true, true, true, true, true, false, true, true, true, false, true, false] rfl rfl rfl rfl (by kernel_rfl) (by decide) (by decide) (fun K hK => ?_) (fun K hK => ?_)
            · refine goes_ Try.func41 (by kernel_rfl) rfl #[.slice (some ⟨g334, 0, none⟩) 3 3] (by rfl) rfl rfl (by (try simp only [List.map_toArray, List.map_cons, List.map_nil]); first | done | rfl) ?_
              refine (ratio_Add.calls _ [24, a185, t277] (some ⟨g334, 0, none⟩) 3 t303 _ ⟨C_of_blk (xs := [24, a185, t277]) (HS.out.at3) (by simp)⟩ ⟨HS.out.begin (l := []) (rest := [blk g187 #[.int .i64 a183, .int .i64 a184, .int .i64 a185, .int .i64 a186] 32, blk g190 #[.int .i64 0, .int .i64 0, .int .i64 0, .int .i64 0, .int .i64 0, .int .i64 0, .int .i64 0, .int .i64 0] 38, blk g329 #[.int .i64 a183, .int .i64 a184] 3, blk g334 #[.int .i64 24, .int .i64 a185, .int .i64 t277] 3])⟩ HA304).mono ?_
              rintro e_ w338 ⟨rfl, hS⟩
              have HS_ : Aside0 (Sep (fps []) w [blk g187 #[.int .i64 a183, .int .i64 a184, .int .i64 a185, .int .i64 a186] 32, blk g190 #[.int .i64 0, .int .i64 0, .int .i64 0, .int .i64 0, .int .i64 0, .int .i64 0, .int .i64 0, .int .i64 0] 38, blk g329 #[.int .i64 a183, .int .i64 a184] 3, blk g334 #[.int .i64 24, .int .i64 a185, .int .i64 t277] 3] w338) := ⟨HS.out.call (l := []) (rest := [blk g187 #[.int .i64 a183, .int .i64 a184, .int .i64 a185, .int .i64 a186] 32, blk g190 #[.int .i64 0, .int .i64 0, .int .i64 0, .int .i64 0, .int .i64 0, .int .i64 0, .int .i64 0, .int .i64 0] 38, blk g329 #[.int .i64 a183, .int .i64 a184] 3, blk g334 #[.int .i64 24, .int .i64 a185, .int .i64 t277] 3]) hS⟩
              clear HS hS
              have HS := HS_
              clear HS_
              refine ⟨_, rfl, ?_⟩
              refine hK.out _ _ (⟨blk_cellv (HS.out.at0) 2 rfl, blk_cellv (HS.out.at0) 0 rfl, blk_cellv (HS.out.at0) 1 rfl⟩) (fun hHeld => ?_)
              clear hK K
              refine norm_ (a' := ?_) ?_ ?_
              rotate_left
              · show Act.put _ (some 21) _ = _
                simp only [Act.put, List.setIfInBounds_toArray, List.set_cons_zero, List.set_cons_succ, i64_w, i32_w]
                rfl
              refine pure_ (i := 13) (N := some 25) (v := ?_) (a' := ?_) #[true, true, true, true, true, true, true, true, true, true, true, true, true, true, false, false] rfl rfl (by kernel_rfl) (fun _ _ _ h => h) (Or.inl ⟨by rfl, ?_⟩) ?_ ?_
              rotate_left
              · intro w'
                go_simp
                with_reducible rfl
              rotate_left
              · simp only [Act.put, List.setIfInBounds_toArray, List.set_cons_zero, List.set_cons_succ, i64_w, i32_w]
                rfl
              refine one_ (i := 14) (N := some 5) #[true, true, true, true, true, true, true, true, true, true, true, true, true, true, true, false] rfl rfl (by kernel_rfl) (by decide) (fun K hK => ?_)
              refine box_step (by rfl) (N := 5) rfl (cs := #[.int .i64 0, .int .i64 0, .int .i64 0, .int .i64 0, .int .i64 0, .int .i64 0, .int .i64 0, .int .i64 0]) (t := 38) ?hr ?_
              case hr => first | (go_simp; done) | (go_simp; rfl)
              intro g339 hg w340 hbox hb
              have HS_ : Aside0 (Sep (fps []) w [blk g187 #[.int .i64 a183, .int .i64 a184, .int .i64 a185, .int .i64 a186] 32, blk g190 #[.int .i64 0, .int .i64 0, .int .i64 0, .int .i64 0, .int .i64 0, .int .i64 0, .int .i64 0, .int .i64 0] 38, blk g329 #[.int .i64 a183, .int .i64 a184] 3, blk g334 #[.int .i64 24, .int .i64 a185, .int .i64 t277] 3, blk g339 #[.int .i64 0, .int .i64 0, .int .i64 0, .int .i64 0, .int .i64 0, .int .i64 0, .int .i64 0, .int .i64 0] 38] w340) := ⟨HS.out.box hg hbox hb⟩
              clear HS hg hbox hb
              have HS := HS_
              clear HS_
              refine hK.out _ _ (⟨blk_cellv (HS.out.at0) 2 rfl, blk_cellv (HS.out.at0) 0 rfl, blk_cellv (HS.out.at0) 1 rfl⟩) (fun hHeld => ?_)
              clear hK K
              refine norm_ (a' := ?_) ?_ ?_
              rotate_left
              · show Act.put _ (some 5) _ = _
                simp only [Act.put, List.setIfInBounds_toArray, List.set_cons_zero, List.set_cons_succ, i64_w, i32_w]
                rfl
              refine one_ (i := 15) (N := none) #[true, true, true, true, true, true, true, true, true, true, true, true, true, true, true, true] rfl rfl (by kernel_rfl) (by decide) (fun K hK => ?_)
              have hc343 := blk_cellv (v := .int .i64 0) (HS.out.at4) 0 rfl
              have hz344 := blk_fz (HS.out.at4) 0
              have hc345 := blk_cellv (v := .int .i64 0) (HS.out.at4) 1 rfl
              have hz346 := blk_fz (HS.out.at4) 1
              have hc347 := blk_cellv (v := .int .i64 0) (HS.out.at4) 2 rfl
              have hz348 := blk_fz (HS.out.at4) 2
              have hc349 := blk_cellv (v := .int .i64 0) (HS.out.at4) 3 rfl
              have hz350 := blk_fz (HS.out.at4) 3
              have hc351 := blk_cellv (v := .int .i64 0) (HS.out.at4) 4 rfl
              have hz352 := blk_fz (HS.out.at4) 4
              have hc353 := blk_cellv (v := .int .i64 0) (HS.out.at4) 5 rfl
              have hz354 := blk_fz (HS.out.at4) 5
              have hc355 := blk_cellv (v := .int .i64 0) (HS.out.at4) 6 rfl
              have hz356 := blk_fz (HS.out.at4) 6
              have hc357 := blk_cellv (v := .int .i64 0) (HS.out.at4) 7 rfl
              have hz358 := blk_fz (HS.out.at4) 7
              refine store_step (w1 := (World.setCell (World.setCell (World.setCell (World.setCell (World.setCell (World.setCell (World.setCell (World.setCell w340 ⟨g339, 0, none⟩ (.int .i64 t303)) ⟨g339, 1, none⟩ (.int .i64 (wrap64 (a184 - 8)))) ⟨g339, 2, none⟩ (.int .i64 0)) ⟨g339, 3, none⟩ (.int .i64 0)) ⟨g339, 4, none⟩ (.int .i64 0)) ⟨g339, 5, none⟩ (.int .i64 0)) ⟨g339, 6, none⟩ (.int .i64 0)) ⟨g339, 7, none⟩ (.int .i64 0))) (by rfl) rfl ?hr ?_
              case hr => first | (go_simp; done) | (go_simp; rfl)
              clear hc343 hz344 hc345 hz346 hc347 hz348 hc349 hz350 hc351 hz352 hc353 hz354 hc355 hz356 hc357 hz358
              intro w342 hst
              have hq0 : Sep (fps []) w [blk g187 #[.int .i64 a183, .int .i64 a184, .int .i64 a185, .int .i64 a186] 32, blk g190 #[.int .i64 0, .int .i64 0, .int .i64 0, .int .i64 0, .int .i64 0, .int .i64 0, .int .i64 0, .int .i64 0] 38, blk g329 #[.int .i64 a183, .int .i64 a184] 3, blk g334 #[.int .i64 24, .int .i64 a185, .int .i64 t277] 3, blk g339 #[.int .i64 t303, .int .i64 0, .int .i64 0, .int .i64 0, .int .i64 0, .int .i64 0, .int .i64 0, .int .i64 0] 38] (World.setCell w340 ⟨g339, 0, none⟩ (.int .i64 t303)) := (HS.out).set1 (l1 := [blk g187 #[.int .i64 a183, .int .i64 a184, .int .i64 a185, .int .i64 a186] 32, blk g190 #[.int .i64 0, .int .i64 0, .int .i64 0, .int .i64 0, .int .i64 0, .int .i64 0, .int .i64 0, .int .i64 0] 38, blk g329 #[.int .i64 a183, .int .i64 a184] 3, blk g334 #[.int .i64 24, .int .i64 a185, .int .i64 t277] 3]) (l2 := []) 0 (.int .i64 t303)
              have hq1 : Sep (fps []) w [blk g187 #[.int .i64 a183, .int .i64 a184, .int .i64 a185, .int .i64 a186] 32, blk g190 #[.int .i64 0, .int .i64 0, .int .i64 0, .int .i64 0, .int .i64 0, .int .i64 0, .int .i64 0, .int .i64 0] 38, blk g329 #[.int .i64 a183, .int .i64 a184] 3, blk g334 #[.int .i64 24, .int .i64 a185, .int .i64 t277] 3, blk g339 #[.int .i64 t303, .int .i64 (wrap64 (a184 - 8)), .int .i64 0, .int .i64 0, .int .i64 0, .int .i64 0, .int .i64 0, .int .i64 0] 38] (World.setCell (World.setCell w340 ⟨g339, 0, none⟩ (.int .i64 t303)) ⟨g339, 1, none⟩ (.int .i64 (wrap64 (a184 - 8)))) := (hq0).set1 (l1 := [blk g187 #[.int .i64 a183, .int .i64 a184, .int .i64 a185, .int .i64 a186] 32, blk g190 #[.int .i64 0, .int .i64 0, .int .i64 0, .int .i64 0, .int .i64 0, .int .i64 0, .int .i64 0, .int .i64 0] 38, blk g329 #[.int .i64 a183, .int .i64 a184] 3, blk g334 #[.int .i64 24, .int .i64 a185, .int .i64 t277] 3]) (l2 := []) 1 (.int .i64 (wrap64 (a184 - 8)))
              have hq2 : Sep (fps []) w [blk g187 #[.int .i64 a183, .int .i64 a184, .int .i64 a185, .int .i64 a186] 32, blk g190 #[.int .i64 0, .int .i64 0, .int .i64 0, .int .i64 0, .int .i64 0, .int .i64 0, .int .i64 0, .int .i64 0] 38, blk g329 #[.int .i64 a183, .int .i64 a184] 3, blk g334 #[.int .i64 24, .int .i64 a185, .int .i64 t277] 3, blk g339 #[.int .i64 t303, .int .i64 (wrap64 (a184 - 8)), .int .i64 0, .int .i64 0, .int .i64 0, .int .i64 0, .int .i64 0, .int .i64 0] 38] (World.setCell (World.setCell (World.setCell w340 ⟨g339, 0, none⟩ (.int .i64 t303)) ⟨g339, 1, none⟩ (.int .i64 (wrap64 (a184 - 8)))) ⟨g339, 2, none⟩ (.int .i64 0)) := (hq1).set1 (l1 := [blk g187 #[.int .i64 a183, .int .i64 a184, .int .i64 a185, .int .i64 a186] 32, blk g190 #[.int .i64 0, .int .i64 0, .int .i64 0, .int .i64 0, .int .i64 0, .int .i64 0, .int .i64 0, .int .i64 0] 38, blk g329 #[.int .i64 a183, .int .i64 a184] 3, blk g334 #[.int .i64 24, .int .i64 a185, .int .i64 t277] 3]) (l2 := []) 2 (.int .i64 0)
              have hq3 : Sep (fps []) w [blk g187 #[.int .i64 a183, .int .i64 a184, .int .i64 a185, .int .i64 a186] 32, blk g190 #[.int .i64 0, .int .i64 0, .int .i64 0, .int .i64 0, .int .i64 0, .int .i64 0, .int .i64 0, .int .i64 0] 38, blk g329 #[.int .i64 a183, .int .i64 a184] 3, blk g334 #[.int .i64 24, .int .i64 a185, .int .i64 t277] 3, blk g339 #[.int .i64 t303, .int .i64 (wrap64 (a184 - 8)), .int .i64 0, .int .i64 0, .int .i64 0, .int .i64 0, .int .i64 0, .int .i64 0] 38] (World.setCell (World.setCell (World.setCell (World.setCell w340 ⟨g339, 0, none⟩ (.int .i64 t303)) ⟨g339, 1, none⟩ (.int .i64 (wrap64 (a184 - 8)))) ⟨g339, 2, none⟩ (.int .i64 0)) ⟨g339, 3, none⟩ (.int .i64 0)) := (hq2).set1 (l1 := [blk g187 #[.int .i64 a183, .int .i64 a184, .int .i64 a185, .int .i64 a186] 32, blk g190 #[.int .i64 0, .int .i64 0, .int .i64 0, .int .i64 0, .int .i64 0, .int .i64 0, .int .i64 0, .int .i64 0] 38, blk g329 #[.int .i64 a183, .int .i64 a184] 3, blk g334 #[.int .i64 24, .int .i64 a185, .int .i64 t277] 3]) (l2 := []) 3 (.int .i64 0)
              have hq4 : Sep (fps []) w [blk g187 #[.int .i64 a183, .int .i64 a184, .int .i64 a185, .int .i64 a186] 32, blk g190 #[.int .i64 0, .int .i64 0, .int .i64 0, .int .i64 0, .int .i64 0, .int .i64 0, .int .i64 0, .int .i64 0] 38, blk g329 #[.int .i64 a183, .int .i64 a184] 3, blk g334 #[.int .i64 24, .int .i64 a185, .int .i64 t277] 3, blk g339 #[.int .i64 t303, .int .i64 (wrap64 (a184 - 8)), .int .i64 0, .int .i64 0, .int .i64 0, .int .i64 0, .int .i64 0, .int .i64 0] 38] (World.setCell (World.setCell (World.setCell (World.setCell (World.setCell w340 ⟨g339, 0, none⟩ (.int .i64 t303)) ⟨g339, 1, none⟩ (.int .i64 (wrap64 (a184 - 8)))) ⟨g339, 2, none⟩ (.int .i64 0)) ⟨g339, 3, none⟩ (.int .i64 0)) ⟨g339, 4, none⟩ (.int .i64 0)) := (hq3).set1 (l1 := [blk g187 #[.int .i64 a183, .int .i64 a184, .int .i64 a185, .int .i64 a186] 32, blk g190 #[.int .i64 0, .int .i64 0, .int .i64 0, .int .i64 0, .int .i64 0, .int .i64 0, .int .i64 0, .int .i64 0] 38, blk g329 #[.int .i64 a183, .int .i64 a184] 3, blk g334 #[.int .i64 24, .int .i64 a185, .int .i64 t277] 3]) (l2 := []) 4 (.int .i64 0)
              have hq5 : Sep (fps []) w [blk g187 #[.int .i64 a183, .int .i64 a184, .int .i64 a185, .int .i64 a186] 32, blk g190 #[.int .i64 0, .int .i64 0, .int .i64 0, .int .i64 0, .int .i64 0, .int .i64 0, .int .i64 0, .int .i64 0] 38, blk g329 #[.int .i64 a183, .int .i64 a184] 3, blk g334 #[.int .i64 24, .int .i64 a185, .int .i64 t277] 3, blk g339 #[.int .i64 t303, .int .i64 (wrap64 (a184 - 8)), .int .i64 0, .int .i64 0, .int .i64 0, .int .i64 0, .int .i64 0, .int .i64 0] 38] (World.setCell (World.setCell (World.setCell (World.setCell (World.setCell (World.setCell w340 ⟨g339, 0, none⟩ (.int .i64 t303)) ⟨g339, 1, none⟩ (.int .i64 (wrap64 (a184 - 8)))) ⟨g339, 2, none⟩ (.int .i64 0)) ⟨g339, 3, none⟩ (.int .i64 0)) ⟨g339, 4, none⟩ (.int .i64 0)) ⟨g339, 5, none⟩ (.int .i64 0)) := (hq4).set1 (l1 := [blk g187 #[.int .i64 a183, .int .i64 a184, .int .i64 a185, .int .i64 a186] 32, blk g190 #[.int .i64 0, .int .i64 0, .int .i64 0, .int .i64 0, .int .i64 0, .int .i64 0, .int .i64 0, .int .i64 0] 38, blk g329 #[.int .i64 a183, .int .i64 a184] 3, blk g334 #[.int .i64 24, .int .i64 a185, .int .i64 t277] 3]) (l2 := []) 5 (.int .i64 0)
              have hq6 : Sep (fps []) w [blk g187 #[.int .i64 a183, .int .i64 a184, .int .i64 a185, .int .i64 a186] 32, blk g190 #[.int .i64 0, .int .i64 0, .int .i64 0, .int .i64 0, .int .i64 0, .int .i64 0, .int .i64 0, .int .i64 0] 38, blk g329 #[.int .i64 a183, .int .i64 a184] 3, blk g334 #[.int .i64 24, .int .i64 a185, .int .i64 t277] 3, blk g339 #[.int .i64 t303, .int .i64 (wrap64 (a184 - 8)), .int .i64 0, .int .i64 0, .int .i64 0, .int .i64 0, .int .i64 0, .int .i64 0] 38] (World.setCell (World.setCell (World.setCell (World.setCell (World.setCell (World.setCell (World.setCell w340 ⟨g339, 0, none⟩ (.int .i64 t303)) ⟨g339, 1, none⟩ (.int .i64 (wrap64 (a184 - 8)))) ⟨g339, 2, none⟩ (.int .i64 0)) ⟨g339, 3, none⟩ (.int .i64 0)) ⟨g339, 4, none⟩ (.int .i64 0)) ⟨g339, 5, none⟩ (.int .i64 0)) ⟨g339, 6, none⟩ (.int .i64 0)) := (hq5).set1 (l1 := [blk g187 #[.int .i64 a183, .int .i64 a184, .int .i64 a185, .int .i64 a186] 32, blk g190 #[.int .i64 0, .int .i64 0, .int .i64 0, .int .i64 0, .int .i64 0, .int .i64 0, .int .i64 0, .int .i64 0] 38, blk g329 #[.int .i64 a183, .int .i64 a184] 3, blk g334 #[.int .i64 24, .int .i64 a185, .int .i64 t277] 3]) (l2 := []) 6 (.int .i64 0)
              have hq7 : Sep (fps []) w [blk g187 #[.int .i64 a183, .int .i64 a184, .int .i64 a185, .int .i64 a186] 32, blk g190 #[.int .i64 0, .int .i64 0, .int .i64 0, .int .i64 0, .int .i64 0, .int .i64 0, .int .i64 0, .int .i64 0] 38, blk g329 #[.int .i64 a183, .int .i64 a184] 3, blk g334 #[.int .i64 24, .int .i64 a185, .int .i64 t277] 3, blk g339 #[.int .i64 t303, .int .i64 (wrap64 (a184 - 8)), .int .i64 0, .int .i64 0, .int .i64 0, .int .i64 0, .int .i64 0, .int .i64 0] 38] (World.setCell (World.setCell (World.setCell (World.setCell (World.setCell (World.setCell (World.setCell (World.setCell w340 ⟨g339, 0, none⟩ (.int .i64 t303)) ⟨g339, 1, none⟩ (.int .i64 (wrap64 (a184 - 8)))) ⟨g339, 2, none⟩ (.int .i64 0)) ⟨g339, 3, none⟩ (.int .i64 0)) ⟨g339, 4, none⟩ (.int .i64 0)) ⟨g339, 5, none⟩ (.int .i64 0)) ⟨g339, 6, none⟩ (.int .i64 0)) ⟨g339, 7, none⟩ (.int .i64 0)) := (hq6).set1 (l1 := [blk g187 #[.int .i64 a183, .int .i64 a184, .int .i64 a185, .int .i64 a186] 32, blk g190 #[.int .i64 0, .int .i64 0, .int .i64 0, .int .i64 0, .int .i64 0, .int .i64 0, .int .i64 0, .int .i64 0] 38, blk g329 #[.int .i64 a183, .int .i64 a184] 3, blk g334 #[.int .i64 24, .int .i64 a185, .int .i64 t277] 3]) (l2 := []) 7 (.int .i64 0)
              have HS_ : Aside0 (Sep (fps []) w [blk g187 #[.int .i64 a183, .int .i64 a184, .int .i64 a185, .int .i64 a186] 32, blk g190 #[.int .i64 0, .int .i64 0, .int .i64 0, .int .i64 0, .int .i64 0, .int .i64 0, .int .i64 0, .int .i64 0] 38, blk g329 #[.int .i64 a183, .int .i64 a184] 3, blk g334 #[.int .i64 24, .int .i64 a185, .int .i64 t277] 3, blk g339 #[.int .i64 t303, .int .i64 (wrap64 (a184 - 8)), .int .i64 0, .int .i64 0, .int .i64 0, .int .i64 0, .int .i64 0, .int .i64 0] 38] w342) := ⟨by rw [hst]; exact hq7⟩
              clear hq0 hq1 hq2 hq3 hq4 hq5 hq6 hq7
              clear HS hst
              have HS := HS_
              clear HS_
              refine hK.out _ _ (⟨blk_cellv (HS.out.at0) 2 rfl, blk_cellv (HS.out.at0) 0 rfl, blk_cellv (HS.out.at0) 1 rfl⟩) (fun hHeld => ?_)
              clear hK K
              refine done_ (by kernel_rfl) ?_
              go_wp2_with fail
              go_meet
              case rel => exact ⟨g329, g334, g339, (by first | rfl | (simp [IntKind.wrap_u32]; done)), ⟨(((((HS.out).front 4 (by simp)).front 4 (by simp)).front 4 (by simp)).front 4 (by simp)).front 4 (by simp)⟩⟩
            · refine box_step (by rfl) (N := 5) rfl (cs := #[.int .i64 0, .int .i64 0, .int .i64 0, .int .i64 0, .int .i64 0, .int .i64 0, .int .i64 0, .int .i64 0]) (t := 38) ?hr ?_
              case hr => first | (go_simp; done) | (go_simp; rfl)
              intro g359 hg w360 hbox hb
              have HS_ : Aside0 (Sep (fps []) w [blk g187 #[.int .i64 a183, .int .i64 a184, .int .i64 a185, .int .i64 a186] 32, blk g190 #[.int .i64 0, .int .i64 0, .int .i64 0, .int .i64 0, .int .i64 0, .int .i64 0, .int .i64 0, .int .i64 0] 38, blk g329 #[.int .i64 a183, .int .i64 a184] 3, blk g334 #[.int .i64 24, .int .i64 a185, .int .i64 t277] 3, blk g359 #[.int .i64 0, .int .i64 0, .int .i64 0, .int .i64 0, .int .i64 0, .int .i64 0, .int .i64 0, .int .i64 0] 38] w360) := ⟨HS.out.box hg hbox hb⟩
              clear HS hg hbox hb
              have HS := HS_
              clear HS_
              refine hK.out _ _ (⟨blk_cellv (HS.out.at0) 2 rfl, blk_cellv (HS.out.at0) 0 rfl, blk_cellv (HS.out.at0) 1 rfl⟩) (fun hHeld => ?_)
              clear hK K
              refine norm_ (a' := ?_) ?_ ?_
              rotate_left
              · show Act.put _ (some 5) _ = _
                simp only [Act.put, List.setIfInBounds_toArray, List.set_cons_zero, List.set_cons_succ, i64_w, i32_w]
                rfl
              refine one_ (i := 9) (N := some 21) #[true, true, true, true, true, true, true, true, true, true, true, true, true, false, true, false] rfl rfl (by kernel_rfl) (by decide) (fun K hK => ?_)
              refine goes_ Try.func41 (by kernel_rfl) rfl #[.slice (some ⟨g334, 0, none⟩) 3 3] (by rfl) rfl rfl (by (try simp only [List.map_toArray, List.map_cons, List.map_nil]); first | done | rfl) ?_
              refine (ratio_Add.calls _ [24, a185, t277] (some ⟨g334, 0, none⟩) 3 t303 _ ⟨C_of_blk (xs := [24, a185, t277]) (HS.out.at3) (by simp)⟩ ⟨HS.out.begin (l := []) (rest := [blk g187 #[.int .i64 a183, .int .i64 a184, .int .i64 a185, .int .i64 a186] 32, blk g190 #[.int .i64 0, .int .i64 0, .int .i64 0, .int .i64 0, .int .i64 0, .int .i64 0, .int .i64 0, .int .i64 0] 38, blk g329 #[.int .i64 a183, .int .i64 a184] 3, blk g334 #[.int .i64 24, .int .i64 a185, .int .i64 t277] 3, blk g359 #[.int .i64 0, .int .i64 0, .int .i64 0, .int .i64 0, .int .i64 0, .int .i64 0, .int .i64 0, .int .i64 0] 38])⟩ HA304).mono ?_
              rintro e_ w363 ⟨rfl, hS⟩
              have HS_ : Aside0 (Sep (fps []) w [blk g187 #[.int .i64 a183, .int .i64 a184, .int .i64 a185, .int .i64 a186] 32, blk g190 #[.int .i64 0, .int .i64 0, .int .i64 0, .int .i64 0, .int .i64 0, .int .i64 0, .int .i64 0, .int .i64 0] 38, blk g329 #[.int .i64 a183, .int .i64 a184] 3, blk g334 #[.int .i64 24, .int .i64 a185, .int .i64 t277] 3, blk g359 #[.int .i64 0, .int .i64 0, .int .i64 0, .int .i64 0, .int .i64 0, .int .i64 0, .int .i64 0, .int .i64 0] 38] w363) := ⟨HS.out.call (l := []) (rest := [blk g187 #[.int .i64 a183, .int .i64 a184, .int .i64 a185, .int .i64 a186] 32, blk g190 #[.int .i64 0, .int .i64 0, .int .i64 0, .int .i64 0, .int .i64 0, .int .i64 0, .int .i64 0, .int .i64 0] 38, blk g329 #[.int .i64 a183, .int .i64 a184] 3, blk g334 #[.int .i64 24, .int .i64 a185, .int .i64 t277] 3, blk g359 #[.int .i64 0, .int .i64 0, .int .i64 0, .int .i64 0, .int .i64 0, .int .i64 0, .int .i64 0, .int .i64 0] 38]) hS⟩
              clear HS hS
              have HS := HS_
              clear HS_
              refine ⟨_, rfl, ?_⟩
              refine hK.out _ _ (⟨blk_cellv (HS.out.at0) 2 rfl, blk_cellv (HS.out.at0) 0 rfl, blk_cellv (HS.out.at0) 1 rfl⟩) (fun hHeld => ?_)
              clear hK K
              refine norm_ (a' := ?_) ?_ ?_
              rotate_left
              · show Act.put _ (some 21) _ = _
                simp only [Act.put, List.setIfInBounds_toArray, List.set_cons_zero, List.set_cons_succ, i64_w, i32_w]
                rfl
              refine pure_ (i := 13) (N := some 25) (v := ?_) (a' := ?_) #[true, true, true, true, true, true, true, true, true, true, true, true, true, true, true, false] rfl rfl (by kernel_rfl) (fun _ _ _ h => h) (Or.inl ⟨by rfl, ?_⟩) ?_ ?_
              rotate_left
              · intro w'
                go_simp
                with_reducible rfl
              rotate_left
              · simp only [Act.put, List.setIfInBounds_toArray, List.set_cons_zero, List.set_cons_succ, i64_w, i32_w]
                rfl
              refine one_ (i := 15) (N := none) #[true, true, true, true, true, true, true, true, true, true, true, true, true, true, true, true] rfl rfl (by kernel_rfl) (by decide) (fun K hK => ?_)
              have hc365 := blk_cellv (v := .int .i64 0) (HS.out.at4) 0 rfl
              have hz366 := blk_fz (HS.out.at4) 0
              have hc367 := blk_cellv (v := .int .i64 0) (HS.out.at4) 1 rfl
              have hz368 := blk_fz (HS.out.at4) 1
              have hc369 := blk_cellv (v := .int .i64 0) (HS.out.at4) 2 rfl
              have hz370 := blk_fz (HS.out.at4) 2
              have hc371 := blk_cellv (v := .int .i64 0) (HS.out.at4) 3 rfl
              have hz372 := blk_fz (HS.out.at4) 3
              have hc373 := blk_cellv (v := .int .i64 0) (HS.out.at4) 4 rfl
              have hz374 := blk_fz (HS.out.at4) 4
              have hc375 := blk_cellv (v := .int .i64 0) (HS.out.at4) 5 rfl
              have hz376 := blk_fz (HS.out.at4) 5
              have hc377 := blk_cellv (v := .int .i64 0) (HS.out.at4) 6 rfl
              have hz378 := blk_fz (HS.out.at4) 6
              have hc379 := blk_cellv (v := .int .i64 0) (HS.out.at4) 7 rfl
              have hz380 := blk_fz (HS.out.at4) 7
              refine store_step (w1 := (World.setCell (World.setCell (World.setCell (World.setCell (World.setCell (World.setCell (World.setCell (World.setCell w363 ⟨g359, 0, none⟩ (.int .i64 t303)) ⟨g359, 1, none⟩ (.int .i64 (wrap64 (a184 - 8)))) ⟨g359, 2, none⟩ (.int .i64 0)) ⟨g359, 3, none⟩ (.int .i64 0)) ⟨g359, 4, none⟩ (.int .i64 0)) ⟨g359, 5, none⟩ (.int .i64 0)) ⟨g359, 6, none⟩ (.int .i64 0)) ⟨g359, 7, none⟩ (.int .i64 0))) (by rfl) rfl ?hr ?_
              case hr => first | (go_simp; done) | (go_simp; rfl)
              clear hc365 hz366 hc367 hz368 hc369 hz370 hc371 hz372 hc373 hz374 hc375 hz376 hc377 hz378 hc379 hz380
              intro w364 hst
              have hq0 : Sep (fps []) w [blk g187 #[.int .i64 a183, .int .i64 a184, .int .i64 a185, .int .i64 a186] 32, blk g190 #[.int .i64 0, .int .i64 0, .int .i64 0, .int .i64 0, .int .i64 0, .int .i64 0, .int .i64 0, .int .i64 0] 38, blk g329 #[.int .i64 a183, .int .i64 a184] 3, blk g334 #[.int .i64 24, .int .i64 a185, .int .i64 t277] 3, blk g359 #[.int .i64 t303, .int .i64 0, .int .i64 0, .int .i64 0, .int .i64 0, .int .i64 0, .int .i64 0, .int .i64 0] 38] (World.setCell w363 ⟨g359, 0, none⟩ (.int .i64 t303)) := (HS.out).set1 (l1 := [blk g187 #[.int .i64 a183, .int .i64 a184, .int .i64 a185, .int .i64 a186] 32, blk g190 #[.int .i64 0, .int .i64 0, .int .i64 0, .int .i64 0, .int .i64 0, .int .i64 0, .int .i64 0, .int .i64 0] 38, blk g329 #[.int .i64 a183, .int .i64 a184] 3, blk g334 #[.int .i64 24, .int .i64 a185, .int .i64 t277] 3]) (l2 := []) 0 (.int .i64 t303)
              have hq1 : Sep (fps []) w [blk g187 #[.int .i64 a183, .int .i64 a184, .int .i64 a185, .int .i64 a186] 32, blk g190 #[.int .i64 0, .int .i64 0, .int .i64 0, .int .i64 0, .int .i64 0, .int .i64 0, .int .i64 0, .int .i64 0] 38, blk g329 #[.int .i64 a183, .int .i64 a184] 3, blk g334 #[.int .i64 24, .int .i64 a185, .int .i64 t277] 3, blk g359 #[.int .i64 t303, .int .i64 (wrap64 (a184 - 8)), .int .i64 0, .int .i64 0, .int .i64 0, .int .i64 0, .int .i64 0, .int .i64 0] 38] (World.setCell (World.setCell w363 ⟨g359, 0, none⟩ (.int .i64 t303)) ⟨g359, 1, none⟩ (.int .i64 (wrap64 (a184 - 8)))) := (hq0).set1 (l1 := [blk g187 #[.int .i64 a183, .int .i64 a184, .int .i64 a185, .int .i64 a186] 32, blk g190 #[.int .i64 0, .int .i64 0, .int .i64 0, .int .i64 0, .int .i64 0, .int .i64 0, .int .i64 0, .int .i64 0] 38, blk g329 #[.int .i64 a183, .int .i64 a184] 3, blk g334 #[.int .i64 24, .int .i64 a185, .int .i64 t277] 3]) (l2 := []) 1 (.int .i64 (wrap64 (a184 - 8)))
              have hq2 : Sep (fps []) w [blk g187 #[.int .i64 a183, .int .i64 a184, .int .i64 a185, .int .i64 a186] 32, blk g190 #[.int .i64 0, .int .i64 0, .int .i64 0, .int .i64 0, .int .i64 0, .int .i64 0, .int .i64 0, .int .i64 0] 38, blk g329 #[.int .i64 a183, .int .i64 a184] 3, blk g334 #[.int .i64 24, .int .i64 a185, .int .i64 t277] 3, blk g359 #[.int .i64 t303, .int .i64 (wrap64 (a184 - 8)), .int .i64 0, .int .i64 0, .int .i64 0, .int .i64 0, .int .i64 0, .int .i64 0] 38] (World.setCell (World.setCell (World.setCell w363 ⟨g359, 0, none⟩ (.int .i64 t303)) ⟨g359, 1, none⟩ (.int .i64 (wrap64 (a184 - 8)))) ⟨g359, 2, none⟩ (.int .i64 0)) := (hq1).set1 (l1 := [blk g187 #[.int .i64 a183, .int .i64 a184, .int .i64 a185, .int .i64 a186] 32, blk g190 #[.int .i64 0, .int .i64 0, .int .i64 0, .int .i64 0, .int .i64 0, .int .i64 0, .int .i64 0, .int .i64 0] 38, blk g329 #[.int .i64 a183, .int .i64 a184] 3, blk g334 #[.int .i64 24, .int .i64 a185, .int .i64 t277] 3]) (l2 := []) 2 (.int .i64 0)
              have hq3 : Sep (fps []) w [blk g187 #[.int .i64 a183, .int .i64 a184, .int .i64 a185, .int .i64 a186] 32, blk g190 #[.int .i64 0, .int .i64 0, .int .i64 0, .int .i64 0, .int .i64 0, .int .i64 0, .int .i64 0, .int .i64 0] 38, blk g329 #[.int .i64 a183, .int .i64 a184] 3, blk g334 #[.int .i64 24, .int .i64 a185, .int .i64 t277] 3, blk g359 #[.int .i64 t303, .int .i64 (wrap64 (a184 - 8)), .int .i64 0, .int .i64 0, .int .i64 0, .int .i64 0, .int .i64 0, .int .i64 0] 38] (World.setCell (World.setCell (World.setCell (World.setCell w363 ⟨g359, 0, none⟩ (.int .i64 t303)) ⟨g359, 1, none⟩ (.int .i64 (wrap64 (a184 - 8)))) ⟨g359, 2, none⟩ (.int .i64 0)) ⟨g359, 3, none⟩ (.int .i64 0)) := (hq2).set1 (l1 := [blk g187 #[.int .i64 a183, .int .i64 a184, .int .i64 a185, .int .i64 a186] 32, blk g190 #[.int .i64 0, .int .i64 0, .int .i64 0, .int .i64 0, .int .i64 0, .int .i64 0, .int .i64 0, .int .i64 0] 38, blk g329 #[.int .i64 a183, .int .i64 a184] 3, blk g334 #[.int .i64 24, .int .i64 a185, .int .i64 t277] 3]) (l2 := []) 3 (.int .i64 0)
              have hq4 : Sep (fps []) w [blk g187 #[.int .i64 a183, .int .i64 a184, .int .i64 a185, .int .i64 a186] 32, blk g190 #[.int .i64 0, .int .i64 0, .int .i64 0, .int .i64 0, .int .i64 0, .int .i64 0, .int .i64 0, .int .i64 0] 38, blk g329 #[.int .i64 a183, .int .i64 a184] 3, blk g334 #[.int .i64 24, .int .i64 a185, .int .i64 t277] 3, blk g359 #[.int .i64 t303, .int .i64 (wrap64 (a184 - 8)), .int .i64 0, .int .i64 0, .int .i64 0, .int .i64 0, .int .i64 0, .int .i64 0] 38] (World.setCell (World.setCell (World.setCell (World.setCell (World.setCell w363 ⟨g359, 0, none⟩ (.int .i64 t303)) ⟨g359, 1, none⟩ (.int .i64 (wrap64 (a184 - 8)))) ⟨g359, 2, none⟩ (.int .i64 0)) ⟨g359, 3, none⟩ (.int .i64 0)) ⟨g359, 4, none⟩ (.int .i64 0)) := (hq3).set1 (l1 := [blk g187 #[.int .i64 a183, .int .i64 a184, .int .i64 a185, .int .i64 a186] 32, blk g190 #[.int .i64 0, .int .i64 0, .int .i64 0, .int .i64 0, .int .i64 0, .int .i64 0, .int .i64 0, .int .i64 0] 38, blk g329 #[.int .i64 a183, .int .i64 a184] 3, blk g334 #[.int .i64 24, .int .i64 a185, .int .i64 t277] 3]) (l2 := []) 4 (.int .i64 0)
              have hq5 : Sep (fps []) w [blk g187 #[.int .i64 a183, .int .i64 a184, .int .i64 a185, .int .i64 a186] 32, blk g190 #[.int .i64 0, .int .i64 0, .int .i64 0, .int .i64 0, .int .i64 0, .int .i64 0, .int .i64 0, .int .i64 0] 38, blk g329 #[.int .i64 a183, .int .i64 a184] 3, blk g334 #[.int .i64 24, .int .i64 a185, .int .i64 t277] 3, blk g359 #[.int .i64 t303, .int .i64 (wrap64 (a184 - 8)), .int .i64 0, .int .i64 0, .int .i64 0, .int .i64 0, .int .i64 0, .int .i64 0] 38] (World.setCell (World.setCell (World.setCell (World.setCell (World.setCell (World.setCell w363 ⟨g359, 0, none⟩ (.int .i64 t303)) ⟨g359, 1, none⟩ (.int .i64 (wrap64 (a184 - 8)))) ⟨g359, 2, none⟩ (.int .i64 0)) ⟨g359, 3, none⟩ (.int .i64 0)) ⟨g359, 4, none⟩ (.int .i64 0)) ⟨g359, 5, none⟩ (.int .i64 0)) := (hq4).set1 (l1 := [blk g187 #[.int .i64 a183, .int .i64 a184, .int .i64 a185, .int .i64 a186] 32, blk g190 #[.int .i64 0, .int .i64 0, .int .i64 0, .int .i64 0, .int .i64 0, .int .i64 0, .int .i64 0, .int .i64 0] 38, blk g329 #[.int .i64 a183, .int .i64 a184] 3, blk g334 #[.int .i64 24, .int .i64 a185, .int .i64 t277] 3]) (l2 := []) 5 (.int .i64 0)
              have hq6 : Sep (fps []) w [blk g187 #[.int .i64 a183, .int .i64 a184, .int .i64 a185, .int .i64 a186] 32, blk g190 #[.int .i64 0, .int .i64 0, .int .i64 0, .int .i64 0, .int .i64 0, .int .i64 0, .int .i64 0, .int .i64 0] 38, blk g329 #[.int .i64 a183, .int .i64 a184] 3, blk g334 #[.int .i64 24, .int .i64 a185, .int .i64 t277] 3, blk g359 #[.int .i64 t303, .int .i64 (wrap64 (a184 - 8)), .int .i64 0, .int .i64 0, .int .i64 0, .int .i64 0, .int .i64 0, .int .i64 0] 38] (World.setCell (World.setCell (World.setCell (World.setCell (World.setCell (World.setCell (World.setCell w363 ⟨g359, 0, none⟩ (.int .i64 t303)) ⟨g359, 1, none⟩ (.int .i64 (wrap64 (a184 - 8)))) ⟨g359, 2, none⟩ (.int .i64 0)) ⟨g359, 3, none⟩ (.int .i64 0)) ⟨g359, 4, none⟩ (.int .i64 0)) ⟨g359, 5, none⟩ (.int .i64 0)) ⟨g359, 6, none⟩ (.int .i64 0)) := (hq5).set1 (l1 := [blk g187 #[.int .i64 a183, .int .i64 a184, .int .i64 a185, .int .i64 a186] 32, blk g190 #[.int .i64 0, .int .i64 0, .int .i64 0, .int .i64 0, .int .i64 0, .int .i64 0, .int .i64 0, .int .i64 0] 38, blk g329 #[.int .i64 a183, .int .i64 a184] 3, blk g334 #[.int .i64 24, .int .i64 a185, .int .i64 t277] 3]) (l2 := []) 6 (.int .i64 0)
              have hq7 : Sep (fps []) w [blk g187 #[.int .i64 a183, .int .i64 a184, .int .i64 a185, .int .i64 a186] 32, blk g190 #[.int .i64 0, .int .i64 0, .int .i64 0, .int .i64 0, .int .i64 0, .int .i64 0, .int .i64 0, .int .i64 0] 38, blk g329 #[.int .i64 a183, .int .i64 a184] 3, blk g334 #[.int .i64 24, .int .i64 a185, .int .i64 t277] 3, blk g359 #[.int .i64 t303, .int .i64 (wrap64 (a184 - 8)), .int .i64 0, .int .i64 0, .int .i64 0, .int .i64 0, .int .i64 0, .int .i64 0] 38] (World.setCell (World.setCell (World.setCell (World.setCell (World.setCell (World.setCell (World.setCell (World.setCell w363 ⟨g359, 0, none⟩ (.int .i64 t303)) ⟨g359, 1, none⟩ (.int .i64 (wrap64 (a184 - 8)))) ⟨g359, 2, none⟩ (.int .i64 0)) ⟨g359, 3, none⟩ (.int .i64 0)) ⟨g359, 4, none⟩ (.int .i64 0)) ⟨g359, 5, none⟩ (.int .i64 0)) ⟨g359, 6, none⟩ (.int .i64 0)) ⟨g359, 7, none⟩ (.int .i64 0)) := (hq6).set1 (l1 := [blk g187 #[.int .i64 a183, .int .i64 a184, .int .i64 a185, .int .i64 a186] 32, blk g190 #[.int .i64 0, .int .i64 0, .int .i64 0, .int .i64 0, .int .i64 0, .int .i64 0, .int .i64 0, .int .i64 0] 38, blk g329 #[.int .i64 a183, .int .i64 a184] 3, blk g334 #[.int .i64 24, .int .i64 a185, .int .i64 t277] 3]) (l2 := []) 7 (.int .i64 0)
              have HS_ : Aside0 (Sep (fps []) w [blk g187 #[.int .i64 a183, .int .i64 a184, .int .i64 a185, .int .i64 a186] 32, blk g190 #[.int .i64 0, .int .i64 0, .int .i64 0, .int .i64 0, .int .i64 0, .int .i64 0, .int .i64 0, .int .i64 0] 38, blk g329 #[.int .i64 a183, .int .i64 a184] 3, blk g334 #[.int .i64 24, .int .i64 a185, .int .i64 t277] 3, blk g359 #[.int .i64 t303, .int .i64 (wrap64 (a184 - 8)), .int .i64 0, .int .i64 0, .int .i64 0, .int .i64 0, .int .i64 0, .int .i64 0] 38] w364) := ⟨by rw [hst]; exact hq7⟩
              clear hq0 hq1 hq2 hq3 hq4 hq5 hq6 hq7
              clear HS hst
              have HS := HS_
              clear HS_
              refine hK.out _ _ (⟨blk_cellv (HS.out.at0) 2 rfl, blk_cellv (HS.out.at0) 0 rfl, blk_cellv (HS.out.at0) 1 rfl⟩) (fun hHeld => ?_)
              clear hK K
              refine done_ (by kernel_rfl) ?_
              go_wp2_with fail
              go_meet
              case rel => exact ⟨g329, g334, g359, (by first | rfl | (simp [IntKind.wrap_u32]; done)), ⟨(((((HS.out).front 4 (by simp)).front 4 (by simp)).front 4 (by simp)).front 4 (by simp)).front 4 (by simp)⟩⟩
          · refine box_step (by rfl) (N := 5) rfl (cs := #[.int .i64 0, .int .i64 0, .int .i64 0, .int .i64 0, .int .i64 0, .int .i64 0, .int .i64 0, .int .i64 0]) (t := 38) ?hr ?_
            case hr => first | (go_simp; done) | (go_simp; rfl)
            intro g381 hg w382 hbox hb
            have HS_ : Aside0 (Sep (fps []) w [blk g187 #[.int .i64 a183, .int .i64 a184, .int .i64 a185, .int .i64 a186] 32, blk g190 #[.int .i64 0, .int .i64 0, .int .i64 0, .int .i64 0, .int .i64 0, .int .i64 0, .int .i64 0, .int .i64 0] 38, blk g329 #[.int .i64 a183, .int .i64 a184] 3, blk g381 #[.int .i64 0, .int .i64 0, .int .i64 0, .int .i64 0, .int .i64 0, .int .i64 0, .int .i64 0, .int .i64 0] 38] w382) := ⟨HS.out.box hg hbox hb⟩
            clear HS hg hbox hb
            have HS := HS_
            clear HS_
            refine hK.out _ _ (⟨blk_cellv (HS.out.at0) 2 rfl, blk_cellv (HS.out.at0) 0 rfl, blk_cellv (HS.out.at0) 1 rfl⟩) (fun hHeld => ?_)
            clear hK K
            refine norm_ (a' := ?_) ?_ ?_
            rotate_left
            · show Act.put _ (some 5) _ = _
              simp only [Act.put, List.setIfInBounds_toArray, List.set_cons_zero, List.set_cons_succ, i64_w, i32_w]
              rfl
            refine one_ (i := 8) (N := some 20) #[true, true, true, true, true, true, true, true, true, false, true, true, true, false, true, false] rfl rfl (by kernel_rfl) (by decide) (fun K hK => ?_)
            refine slice_step (n := 3) (by rfl) (N := 20) rfl (cs := #[.int .i64 24, .int .i64 a185, .int .i64 t277]) (t := 3) ?hr ?_
            case hr => first | (go_simp; done) | (go_simp; rfl)
            intro g384 hg w385 hbox hb
            have HS_ : Aside0 (Sep (fps []) w [blk g187 #[.int .i64 a183, .int .i64 a184, .int .i64 a185, .int .i64 a186] 32, blk g190 #[.int .i64 0, .int .i64 0, .int .i64 0, .int .i64 0, .int .i64 0, .int .i64 0, .int .i64 0, .int .i64 0] 38, blk g329 #[.int .i64 a183, .int .i64 a184] 3, blk g381 #[.int .i64 0, .int .i64 0, .int .i64 0, .int .i64 0, .int .i64 0, .int .i64 0, .int .i64 0, .int .i64 0] 38, blk g384 #[.int .i64 24, .int .i64 a185, .int .i64 t277] 3] w385) := ⟨HS.out.box hg hbox hb⟩
            clear HS hg hbox hb
            have HS := HS_
            clear HS_
            refine hK.out _ _ (⟨blk_cellv (HS.out.at0) 2 rfl, blk_cellv (HS.out.at0) 0 rfl, blk_cellv (HS.out.at0) 1 rfl⟩) (fun hHeld => ?_)
            clear hK K
            refine norm_ (a' := ?_) ?_ ?_
            rotate_left
            · show Act.put _ (some 20) _ = _
              simp only [Act.put, List.setIfInBounds_toArray, List.set_cons_zero, List.set_cons_succ, i64_w, i32_w]
              rfl
            refine one_ (i := 9) (N := some 21) #[true, true, true, true, true, true, true, true, true, true, true, true, true, false, true, false] rfl rfl (by kernel_rfl) (by decide) (fun K hK => ?_)
            refine goes_ Try.func41 (by kernel_rfl) rfl #[.slice (some ⟨g384, 0, none⟩) 3 3] (by rfl) rfl rfl (by (try simp only [List.map_toArray, List.map_cons, List.map_nil]); first | done | rfl) ?_
            refine (ratio_Add.calls _ [24, a185, t277] (some ⟨g384, 0, none⟩) 3 t303 _ ⟨C_of_blk (xs := [24, a185, t277]) (HS.out.at4) (by simp)⟩ ⟨HS.out.begin (l := []) (rest := [blk g187 #[.int .i64 a183, .int .i64 a184, .int .i64 a185, .int .i64 a186] 32, blk g190 #[.int .i64 0, .int .i64 0, .int .i64 0, .int .i64 0, .int .i64 0, .int .i64 0, .int .i64 0, .int .i64 0] 38, blk g329 #[.int .i64 a183, .int .i64 a184] 3, blk g381 #[.int .i64 0, .int .i64 0, .int .i64 0, .int .i64 0, .int .i64 0, .int .i64 0, .int .i64 0, .int .i64 0] 38, blk g384 #[.int .i64 24, .int .i64 a185, .int .i64 t277] 3])⟩ HA304).mono ?_
            rintro e_ w388 ⟨rfl, hS⟩
            have HS_ : Aside0 (Sep (fps []) w [blk g187 #[.int .i64 a183, .int .i64 a184, .int .i64 a185, .int .i64 a186] 32, blk g190 #[.int .i64 0, .int .i64 0, .int .i64 0, .int .i64 0, .int .i64 0, .int .i64 0, .int .i64 0, .int .i64 0] 38, blk g329 #[.int .i64 a183, .int .i64 a184] 3, blk g381 #[.int .i64 0, .int .i64 0, .int .i64 0, .int .i64 0, .int .i64 0, .int .i64 0, .int .i64 0, .int .i64 0] 38, blk g384 #[.int .i64 24, .int .i64 a185, .int .i64 t277] 3] w388) := ⟨HS.out.call (l := []) (rest := [blk g187 #[.int .i64 a183, .int .i64 a184, .int .i64 a185, .int .i64 a186] 32, blk g190 #[.int .i64 0, .int .i64 0, .int .i64 0, .int .i64 0, .int .i64 0, .int .i64 0, .int .i64 0, .int .i64 0] 38, blk g329 #[.int .i64 a183, .int .i64 a184] 3, blk g381 #[.int .i64 0, .int .i64 0, .int .i64 0, .int .i64 0, .int .i64 0, .int .i64 0, .int .i64 0, .int .i64 0] 38, blk g384 #[.int .i64 24, .int .i64 a185, .int .i64 t277] 3]) hS⟩
            clear HS hS
            have HS := HS_
            clear HS_
            refine ⟨_, rfl, ?_⟩
            refine hK.out _ _ (⟨blk_cellv (HS.out.at0) 2 rfl, blk_cellv (HS.out.at0) 0 rfl, blk_cellv (HS.out.at0) 1 rfl⟩) (fun hHeld => ?_)
            clear hK K
            refine norm_ (a' := ?_) ?_ ?_
            rotate_left
            · show Act.put _ (some 21) _ = _
              simp only [Act.put, List.setIfInBounds_toArray, List.set_cons_zero, List.set_cons_succ, i64_w, i32_w]
              rfl
            refine pure_ (i := 13) (N := some 25) (v := ?_) (a' := ?_) #[true, true, true, true, true, true, true, true, true, true, true, true, true, true, true, false] rfl rfl (by kernel_rfl) (fun _ _ _ h => h) (Or.inl ⟨by rfl, ?_⟩) ?_ ?_
            rotate_left
            · intro w'
              go_simp
              with_reducible rfl
            rotate_left
            · simp only [Act.put, List.setIfInBounds_toArray, List.set_cons_zero, List.set_cons_succ, i64_w, i32_w]
              rfl
            refine one_ (i := 15) (N := none) #[true, true, true, true, true, true, true, true, true, true, true, true, true, true, true, true] rfl rfl (by kernel_rfl) (by decide) (fun K hK => ?_)
            have hc390 := blk_cellv (v := .int .i64 0) (HS.out.at3) 0 rfl
            have hz391 := blk_fz (HS.out.at3) 0
            have hc392 := blk_cellv (v := .int .i64 0) (HS.out.at3) 1 rfl
            have hz393 := blk_fz (HS.out.at3) 1
            have hc394 := blk_cellv (v := .int .i64 0) (HS.out.at3) 2 rfl
            have hz395 := blk_fz (HS.out.at3) 2
            have hc396 := blk_cellv (v := .int .i64 0) (HS.out.at3) 3 rfl
            have hz397 := blk_fz (HS.out.at3) 3
            have hc398 := blk_cellv (v := .int .i64 0) (HS.out.at3) 4 rfl
            have hz399 := blk_fz (HS.out.at3) 4
            have hc400 := blk_cellv (v := .int .i64 0) (HS.out.at3) 5 rfl
            have hz401 := blk_fz (HS.out.at3) 5
            have hc402 := blk_cellv (v := .int .i64 0) (HS.out.at3) 6 rfl
            have hz403 := blk_fz (HS.out.at3) 6
            have hc404 := blk_cellv (v := .int .i64 0) (HS.out.at3) 7 rfl
            have hz405 := blk_fz (HS.out.at3) 7
            refine store_step (w1 := (World.setCell (World.setCell (World.setCell (World.setCell (World.setCell (World.setCell (World.setCell (World.setCell w388 ⟨g381, 0, none⟩ (.int .i64 t303)) ⟨g381, 1, none⟩ (.int .i64 (wrap64 (a184 - 8)))) ⟨g381, 2, none⟩ (.int .i64 0)) ⟨g381, 3, none⟩ (.int .i64 0)) ⟨g381, 4, none⟩ (.int .i64 0)) ⟨g381, 5, none⟩ (.int .i64 0)) ⟨g381, 6, none⟩ (.int .i64 0)) ⟨g381, 7, none⟩ (.int .i64 0))) (by rfl) rfl ?hr ?_
            case hr => first | (go_simp; done) | (go_simp; rfl)
            clear hc390 hz391 hc392 hz393 hc394 hz395 hc396 hz397 hc398 hz399 hc400 hz401 hc402 hz403 hc404 hz405
            intro w389 hst
            have hq0 : Sep (fps []) w [blk g187 #[.int .i64 a183, .int .i64 a184, .int .i64 a185, .int .i64 a186] 32, blk g190 #[.int .i64 0, .int .i64 0, .int .i64 0, .int .i64 0, .int .i64 0, .int .i64 0, .int .i64 0, .int .i64 0] 38, blk g329 #[.int .i64 a183, .int .i64 a184] 3, blk g381 #[.int .i64 t303, .int .i64 0, .int .i64 0, .int .i64 0, .int .i64 0, .int .i64 0, .int .i64 0, .int .i64 0] 38, blk g384 #[.int .i64 24, .int .i64 a185, .int .i64 t277] 3] (World.setCell w388 ⟨g381, 0, none⟩ (.int .i64 t303)) := (HS.out).set1 (l1 := [blk g187 #[.int .i64 a183, .int .i64 a184, .int .i64 a185, .int .i64 a186] 32, blk g190 #[.int .i64 0, .int .i64 0, .int .i64 0, .int .i64 0, .int .i64 0, .int .i64 0, .int .i64 0, .int .i64 0] 38, blk g329 #[.int .i64 a183, .int .i64 a184] 3]) (l2 := [blk g384 #[.int .i64 24, .int .i64 a185, .int .i64 t277] 3]) 0 (.int .i64 t303)
            have hq1 : Sep (fps []) w [blk g187 #[.int .i64 a183, .int .i64 a184, .int .i64 a185, .int .i64 a186] 32, blk g190 #[.int .i64 0, .int .i64 0, .int .i64 0, .int .i64 0, .int .i64 0, .int .i64 0, .int .i64 0, .int .i64 0] 38, blk g329 #[.int .i64 a183, .int .i64 a184] 3, blk g381 #[.int .i64 t303, .int .i64 (wrap64 (a184 - 8)), .int .i64 0, .int .i64 0, .int .i64 0, .int .i64 0, .int .i64 0, .int .i64 0] 38, blk g384 #[.int .i64 24, .int .i64 a185, .int .i64 t277] 3] (World.setCell (World.setCell w388 ⟨g381, 0, none⟩ (.int .i64 t303)) ⟨g381, 1, none⟩ (.int .i64 (wrap64 (a184 - 8)))) := (hq0).set1 (l1 := [blk g187 #[.int .i64 a183, .int .i64 a184, .int .i64 a185, .int .i64 a186] 32, blk g190 #[.int .i64 0, .int .i64 0, .int .i64 0, .int .i64 0, .int .i64 0, .int .i64 0, .int .i64 0, .int .i64 0] 38, blk g329 #[.int .i64 a183, .int .i64 a184] 3]) (l2 := [blk g384 #[.int .i64 24, .int .i64 a185, .int .i64 t277] 3]) 1 (.int .i64 (wrap64 (a184 - 8)))
            have hq2 : Sep (fps []) w [blk g187 #[.int .i64 a183, .int .i64 a184, .int .i64 a185, .int .i64 a186] 32, blk g190 #[.int .i64 0, .int .i64 0, .int .i64 0, .int .i64 0, .int .i64 0, .int .i64 0, .int .i64 0, .int .i64 0] 38, blk g329 #[.int .i64 a183, .int .i64 a184] 3, blk g381 #[.int .i64 t303, .int .i64 (wrap64 (a184 - 8)), .int .i64 0, .int .i64 0, .int .i64 0, .int .i64 0, .int .i64 0, .int .i64 0] 38, blk g384 #[.int .i64 24, .int .i64 a185, .int .i64 t277] 3] (World.setCell (World.setCell (World.setCell w388 ⟨g381, 0, none⟩ (.int .i64 t303)) ⟨g381, 1, none⟩ (.int .i64 (wrap64 (a184 - 8)))) ⟨g381, 2, none⟩ (.int .i64 0)) := (hq1).set1 (l1 := [blk g187 #[.int .i64 a183, .int .i64 a184, .int .i64 a185, .int .i64 a186] 32, blk g190 #[.int .i64 0, .int .i64 0, .int .i64 0, .int .i64 0, .int .i64 0, .int .i64 0, .int .i64 0, .int .i64 0] 38, blk g329 #[.int .i64 a183, .int .i64 a184] 3]) (l2 := [blk g384 #[.int .i64 24, .int .i64 a185, .int .i64 t277] 3]) 2 (.int .i64 0)
            have hq3 : Sep (fps []) w [blk g187 #[.int .i64 a183, .int .i64 a184, .int .i64 a185, .int .i64 a186] 32, blk g190 #[.int .i64 0, .int .i64 0, .int .i64 0, .int .i64 0, .int .i64 0, .int .i64 0, .int .i64 0, .int .i64 0] 38, blk g329 #[.int .i64 a183, .int .i64 a184] 3, blk g381 #[.int .i64 t303, .int .i64 (wrap64 (a184 - 8)), .int .i64 0, .int .i64 0, .int .i64 0, .int .i64 0, .int .i64 0, .int .i64 0] 38, blk g384 #[.int .i64 24, .int .i64 a185, .int .i64 t277] 3] (World.setCell (World.setCell (World.setCell (World.setCell w388 ⟨g381, 0, none⟩ (.int .i64 t303)) ⟨g381, 1, none⟩ (.int .i64 (wrap64 (a184 - 8)))) ⟨g381, 2, none⟩ (.int .i64 0)) ⟨g381, 3, none⟩ (.int .i64 0)) := (hq2).set1 (l1 := [blk g187 #[.int .i64 a183, .int .i64 a184, .int .i64 a185, .int .i64 a186] 32, blk g190 #[.int .i64 0, .int .i64 0, .int .i64 0, .int .i64 0, .int .i64 0, .int .i64 0, .int .i64 0, .int .i64 0] 38, blk g329 #[.int .i64 a183, .int .i64 a184] 3]) (l2 := [blk g384 #[.int .i64 24, .int .i64 a185, .int .i64 t277] 3]) 3 (.int .i64 0)
            have hq4 : Sep (fps []) w [blk g187 #[.int .i64 a183, .int .i64 a184, .int .i64 a185, .int .i64 a186] 32, blk g190 #[.int .i64 0, .int .i64 0, .int .i64 0, .int .i64 0, .int .i64 0, .int .i64 0, .int .i64 0, .int .i64 0] 38, blk g329 #[.int .i64 a183, .int .i64 a184] 3, blk g381 #[.int .i64 t303, .int .i64 (wrap64 (a184 - 8)), .int .i64 0, .int .i64 0, .int .i64 0, .int .i64 0, .int .i64 0, .int .i64 0] 38, blk g384 #[.int .i64 24, .int .i64 a185, .int .i64 t277] 3] (World.setCell (World.setCell (World.setCell (World.setCell (World.setCell w388 ⟨g381, 0, none⟩ (.int .i64 t303)) ⟨g381, 1, none⟩ (.int .i64 (wrap64 (a184 - 8)))) ⟨g381, 2, none⟩ (.int .i64 0)) ⟨g381, 3, none⟩ (.int .i64 0)) ⟨g381, 4, none⟩ (.int .i64 0)) := (hq3).set1 (l1 := [blk g187 #[.int .i64 a183, .int .i64 a184, .int .i64 a185, .int .i64 a186] 32, blk g190 #[.int .i64 0, .int .i64 0, .int .i64 0, .int .i64 0, .int .i64 0, .int .i64 0, .int .i64 0, .int .i64 0] 38, blk g329 #[.int .i64 a183, .int .i64 a184] 3]) (l2 := [blk g384 #[.int .i64 24, .int .i64 a185, .int .i64 t277] 3]) 4 (.int .i64 0)
            have hq5 : Sep (fps []) w [blk g187 #[.int .i64 a183, .int .i64 a184, .int .i64 a185, .int .i64 a186] 32, blk g190 #[.int .i64 0, .int .i64 0, .int .i64 0, .int .i64 0, .int .i64 0, .int .i64 0, .int .i64 0, .int .i64 0] 38, blk g329 #[.int .i64 a183, .int .i64 a184] 3, blk g381 #[.int .i64 t303, .int .i64 (wrap64 (a184 - 8)), .int .i64 0, .int .i64 0, .int .i64 0, .int .i64 0, .int .i64 0, .int .i64 0] 38, blk g384 #[.int .i64 24, .int .i64 a185, .int .i64 t277] 3] (World.setCell (World.setCell (World.setCell (World.setCell (World.setCell (World.setCell w388 ⟨g381, 0, none⟩ (.int .i64 t303)) ⟨g381, 1, none⟩ (.int .i64 (wrap64 (a184 - 8)))) ⟨g381, 2, none⟩ (.int .i64 0)) ⟨g381, 3, none⟩ (.int .i64 0)) ⟨g381, 4, none⟩ (.int .i64 0)) ⟨g381, 5, none⟩ (.int .i64 0)) := (hq4).set1 (l1 := [blk g187 #[.int .i64 a183, .int .i64 a184, .int .i64 a185, .int .i64 a186] 32, blk g190 #[.int .i64 0, .int .i64 0, .int .i64 0, .int .i64 0, .int .i64 0, .int .i64 0, .int .i64 0, .int .i64 0] 38, blk g329 #[.int .i64 a183, .int .i64 a184] 3]) (l2 := [blk g384 #[.int .i64 24, .int .i64 a185, .int .i64 t277] 3]) 5 (.int .i64 0)
            have hq6 : Sep (fps []) w [blk g187 #[.int .i64 a183, .int .i64 a184, .int .i64 a185, .int .i64 a186] 32, blk g190 #[.int .i64 0, .int .i64 0, .int .i64 0, .int .i64 0, .int .i64 0, .int .i64 0, .int .i64 0, .int .i64 0] 38, blk g329 #[.int .i64 a183, .int .i64 a184] 3, blk g381 #[.int .i64 t303, .int .i64 (wrap64 (a184 - 8)), .int .i64 0, .int .i64 0, .int .i64 0, .int .i64 0, .int .i64 0, .int .i64 0] 38, blk g384 #[.int .i64 24, .int .i64 a185, .int .i64 t277] 3] (World.setCell (World.setCell (World.setCell (World.setCell (World.setCell (World.setCell (World.setCell w388 ⟨g381, 0, none⟩ (.int .i64 t303)) ⟨g381, 1, none⟩ (.int .i64 (wrap64 (a184 - 8)))) ⟨g381, 2, none⟩ (.int .i64 0)) ⟨g381, 3, none⟩ (.int .i64 0)) ⟨g381, 4, none⟩ (.int .i64 0)) ⟨g381, 5, none⟩ (.int .i64 0)) ⟨g381, 6, none⟩ (.int .i64 0)) := (hq5).set1 (l1 := [blk g187 #[.int .i64 a183, .int .i64 a184, .int .i64 a185, .int .i64 a186] 32, blk g190 #[.int .i64 0, .int .i64 0, .int .i64 0, .int .i64 0, .int .i64 0, .int .i64 0, .int .i64 0, .int .i64 0] 38, blk g329 #[.int .i64 a183, .int .i64 a184] 3]) (l2 := [blk g384 #[.int .i64 24, .int .i64 a185, .int .i64 t277] 3]) 6 (.int .i64 0)
            have hq7 : Sep (fps []) w [blk g187 #[.int .i64 a183, .int .i64 a184, .int .i64 a185, .int .i64 a186] 32, blk g190 #[.int .i64 0, .int .i64 0, .int .i64 0, .int .i64 0, .int .i64 0, .int .i64 0, .int .i64 0, .int .i64 0] 38, blk g329 #[.int .i64 a183, .int .i64 a184] 3, blk g381 #[.int .i64 t303, .int .i64 (wrap64 (a184 - 8)), .int .i64 0, .int .i64 0, .int .i64 0, .int .i64 0, .int .i64 0, .int .i64 0] 38, blk g384 #[.int .i64 24, .int .i64 a185, .int .i64 t277] 3] (World.setCell (World.setCell (World.setCell (World.setCell (World.setCell (World.setCell (World.setCell (World.setCell w388 ⟨g381, 0, none⟩ (.int .i64 t303)) ⟨g381, 1, none⟩ (.int .i64 (wrap64 (a184 - 8)))) ⟨g381, 2, none⟩ (.int .i64 0)) ⟨g381, 3, none⟩ (.int .i64 0)) ⟨g381, 4, none⟩ (.int .i64 0)) ⟨g381, 5, none⟩ (.int .i64 0)) ⟨g381, 6, none⟩ (.int .i64 0)) ⟨g381, 7, none⟩ (.int .i64 0)) := (hq6).set1 (l1 := [blk g187 #[.int .i64 a183, .int .i64 a184, .int .i64 a185, .int .i64 a186] 32, blk g190 #[.int .i64 0, .int .i64 0, .int .i64 0, .int .i64 0, .int .i64 0, .int .i64 0, .int .i64 0, .int .i64 0] 38, blk g329 #[.int .i64 a183, .int .i64 a184] 3]) (l2 := [blk g384 #[.int .i64 24, .int .i64 a185, .int .i64 t277] 3]) 7 (.int .i64 0)
            have HS_ : Aside0 (Sep (fps []) w [blk g187 #[.int .i64 a183, .int .i64 a184, .int .i64 a185, .int .i64 a186] 32, blk g190 #[.int .i64 0, .int .i64 0, .int .i64 0, .int .i64 0, .int .i64 0, .int .i64 0, .int .i64 0, .int .i64 0] 38, blk g329 #[.int .i64 a183, .int .i64 a184] 3, blk g381 #[.int .i64 t303, .int .i64 (wrap64 (a184 - 8)), .int .i64 0, .int .i64 0, .int .i64 0, .int .i64 0, .int .i64 0, .int .i64 0] 38, blk g384 #[.int .i64 24, .int .i64 a185, .int .i64 t277] 3] w389) := ⟨by rw [hst]; exact hq7⟩
            clear hq0 hq1 hq2 hq3 hq4 hq5 hq6 hq7
            clear HS hst
            have HS := HS_
            clear HS_
            refine hK.out _ _ (⟨blk_cellv (HS.out.at0) 2 rfl, blk_cellv (HS.out.at0) 0 rfl, blk_cellv (HS.out.at0) 1 rfl⟩) (fun hHeld => ?_)
            clear hK K
            refine done_ (by kernel_rfl) ?_
            go_wp2_with fail
            go_meet
            case rel => exact ⟨g329, g384, g381, (by first | rfl | (simp [IntKind.wrap_u32]; done)), ⟨(((((HS.out).front 3 (by simp)).front 4 (by simp)).front 4 (by simp)).front 4 (by simp)).front 4 (by simp)⟩⟩
        · refine box_step (by rfl) (N := 5) rfl (cs := #[.int .i64 0, .int .i64 0, .int .i64 0, .int .i64 0, .int .i64 0, .int .i64 0, .int .i64 0, .int .i64 0]) (t := 38) ?hr ?_
          case hr => first | (go_simp; done) | (go_simp; rfl)
          intro g406 hg w407 hbox hb
          have HS_ : Aside0 (Sep (fps []) w [blk g187 #[.int .i64 a183, .int .i64 a184, .int .i64 a185, .int .i64 a186] 32, blk g190 #[.int .i64 0, .int .i64 0, .int .i64 0, .int .i64 0, .int .i64 0, .int .i64 0, .int .i64 0, .int .i64 0] 38, blk g329 #[.int .i64 a183, .int .i64 a184] 3, blk g406 #[.int .i64 0, .int .i64 0, .int .i64 0, .int .i64 0, .int .i64 0, .int .i64 0, .int .i64 0, .int .i64 0] 38] w407) := ⟨HS.out.box hg hbox hb⟩
          clear HS hg hbox hb
          have HS := HS_
          clear HS_
          refine hK.out _ _ (⟨blk_cellv (HS.out.at0) 2 rfl, blk_cellv (HS.out.at0) 0 rfl, blk_cellv (HS.out.at0) 1 rfl⟩) (fun hHeld => ?_)
          clear hK K
          refine norm_ (a' := ?_) ?_ ?_
          rotate_left
          · show Act.put _ (some 5) _ = _
            simp only [Act.put, List.setIfInBounds_toArray, List.set_cons_zero, List.set_cons_succ, i64_w, i32_w]
            rfl
          refine one_ (i := 7) (N := some 19) #[true, true, true, true, true, true, true, true, false, false, true, true, true, false, true, false] rfl rfl (by kernel_rfl) (by decide) (fun K hK => ?_)
          refine goes_ Try.func42 (by kernel_rfl) rfl #[.slice (some ⟨g329, 0, none⟩) 2 2] (by rfl) rfl rfl (by (try simp only [List.map_toArray, List.map_cons, List.map_nil]); first | done | rfl) ?_
          refine (ratio_Mul.calls _ [a183, a184] (some ⟨g329, 0, none⟩) 2 t277 _ ⟨C_of_blk (xs := [a183, a184]) (HS.out.at2) (by simp)⟩ ⟨HS.out.begin (l := []) (rest := [blk g187 #[.int .i64 a183, .int .i64 a184, .int .i64 a185, .int .i64 a186] 32, blk g190 #[.int .i64 0, .int .i64 0, .int .i64 0, .int .i64 0, .int .i64 0, .int .i64 0, .int .i64 0, .int .i64 0] 38, blk g329 #[.int .i64 a183, .int .i64 a184] 3, blk g406 #[.int .i64 0, .int .i64 0, .int .i64 0, .int .i64 0, .int .i64 0, .int .i64 0, .int .i64 0, .int .i64 0] 38])⟩ HA278).mono ?_
          rintro e_ w410 ⟨rfl, hS⟩
          have HS_ : Aside0 (Sep (fps []) w [blk g187 #[.int .i64 a183, .int .i64 a184, .int .i64 a185, .int .i64 a186] 32, blk g190 #[.int .i64 0, .int .i64 0, .int .i64 0, .int .i64 0, .int .i64 0, .int .i64 0, .int .i64 0, .int .i64 0] 38, blk g329 #[.int .i64 a183, .int .i64 a184] 3, blk g406 #[.int .i64 0, .int .i64 0, .int .i64 0, .int .i64 0, .int .i64 0, .int .i64 0, .int .i64 0, .int .i64 0] 38] w410) := ⟨HS.out.call (l := []) (rest := [blk g187 #[.int .i64 a183, .int .i64 a184, .int .i64 a185, .int .i64 a186] 32, blk g190 #[.int .i64 0, .int .i64 0, .int .i64 0, .int .i64 0, .int .i64 0, .int .i64 0, .int .i64 0, .int .i64 0] 38, blk g329 #[.int .i64 a183, .int .i64 a184] 3, blk g406 #[.int .i64 0, .int .i64 0, .int .i64 0, .int .i64 0, .int .i64 0, .int .i64 0, .int .i64 0, .int .i64 0] 38]) hS⟩
          clear HS hS
          have HS := HS_
          clear HS_
          refine ⟨_, rfl, ?_⟩
          refine hK.out _ _ (⟨blk_cellv (HS.out.at0) 2 rfl, blk_cellv (HS.out.at0) 0 rfl, blk_cellv (HS.out.at0) 1 rfl⟩) (fun hHeld => ?_)
          clear hK K
          refine norm_ (a' := ?_) ?_ ?_
          rotate_left
          · show Act.put _ (some 19) _ = _
            simp only [Act.put, List.setIfInBounds_toArray, List.set_cons_zero, List.set_cons_succ, i64_w, i32_w]
            rfl
          refine one_ (i := 8) (N := some 20) #[true, true, true, true, true, true, true, true, true, false, true, true, true, false, true, false] rfl rfl (by kernel_rfl) (by decide) (fun K hK => ?_)
          refine slice_step (n := 3) (by rfl) (N := 20) rfl (cs := #[.int .i64 24, .int .i64 a185, .int .i64 t277]) (t := 3) ?hr ?_
          case hr => first | (go_simp; done) | (go_simp; rfl)
          intro g411 hg w412 hbox hb
          have HS_ : Aside0 (Sep (fps []) w [blk g187 #[.int .i64 a183, .int .i64 a184, .int .i64 a185, .int .i64 a186] 32, blk g190 #[.int .i64 0, .int .i64 0, .int .i64 0, .int .i64 0, .int .i64 0, .int .i64 0, .int .i64 0, .int .i64 0] 38, blk g329 #[.int .i64 a183, .int .i64 a184] 3, blk g406 #[.int .i64 0, .int .i64 0, .int .i64 0, .int .i64 0, .int .i64 0, .int .i64 0, .int .i64 0, .int .i64 0] 38, blk g411 #[.int .i64 24, .int .i64 a185, .int .i64 t277] 3] w412) := ⟨HS.out.box hg hbox hb⟩
          clear HS hg hbox hb
          have HS := HS_
          clear HS_
          refine hK.out _ _ (⟨blk_cellv (HS.out.at0) 2 rfl, blk_cellv (HS.out.at0) 0 rfl, blk_cellv (HS.out.at0) 1 rfl⟩) (fun hHeld => ?_)
          clear hK K
          refine norm_ (a' := ?_) ?_ ?_
          rotate_left
          · show Act.put _ (some 20) _ = _
            simp only [Act.put, List.setIfInBounds_toArray, List.set_cons_zero, List.set_cons_succ, i64_w, i32_w]
            rfl
          refine one_ (i := 9) (N := some 21) #[true, true, true, true, true, true, true, true, true, true, true, true, true, false, true, false] rfl rfl (by kernel_rfl) (by decide) (fun K hK => ?_)
          refine goes_ Try.func41 (by kernel_rfl) rfl #[.slice (some ⟨g411, 0, none⟩) 3 3] (by rfl) rfl rfl (by (try simp only [List.map_toArray, List.map_cons, List.map_nil]); first | done | rfl) ?_
          refine (ratio_Add.calls _ [24, a185, t277] (some ⟨g411, 0, none⟩) 3 t303 _ ⟨C_of_blk (xs := [24, a185, t277]) (HS.out.at4) (by simp)⟩ ⟨HS.out.begin (l := []) (rest := [blk g187 #[.int .i64 a183, .int .i64 a184, .int .i64 a185, .int .i64 a186] 32, blk g190 #[.int .i64 0, .int .i64 0, .int .i64 0, .int .i64 0, .int .i64 0, .int .i64 0, .int .i64 0, .int .i64 0] 38, blk g329 #[.int .i64 a183, .int .i64 a184] 3, blk g406 #[.int .i64 0, .int .i64 0, .int .i64 0, .int .i64 0, .int .i64 0, .int .i64 0, .int .i64 0, .int .i64 0] 38, blk g411 #[.int .i64 24, .int .i64 a185, .int .i64 t277] 3])⟩ HA304).mono ?_
          rintro e_ w415 ⟨rfl, hS⟩
          have HS_ : Aside0 (Sep (fps []) w [blk g187 #[.int .i64 a183, .int .i64 a184, .int .i64 a185, .int .i64 a186] 32, blk g190 #[.int .i64 0, .int .i64 0, .int .i64 0, .int .i64 0, .int .i64 0, .int .i64 0, .int .i64 0, .int .i64 0] 38, blk g329 #[.int .i64 a183, .int .i64 a184] 3, blk g406 #[.int .i64 0, .int .i64 0, .int .i64 0, .int .i64 0, .int .i64 0, .int .i64 0, .int .i64 0, .int .i64 0] 38, blk g411 #[.int .i64 24, .int .i64 a185, .int .i64 t277] 3] w415) := ⟨HS.out.call (l := []) (rest := [blk g187 #[.int .i64 a183, .int .i64 a184, .int .i64 a185, .int .i64 a186] 32, blk g190 #[.int .i64 0, .int .i64 0, .int .i64 0, .int .i64 0, .int .i64 0, .int .i64 0, .int .i64 0, .int .i64 0] 38, blk g329 #[.int .i64 a183, .int .i64 a184] 3, blk g406 #[.int .i64 0, .int .i64 0, .int .i64 0, .int .i64 0, .int .i64 0, .int .i64 0, .int .i64 0, .int .i64 0] 38, blk g411 #[.int .i64 24, .int .i64 a185, .int .i64 t277] 3]) hS⟩
          clear HS hS
          have HS := HS_
          clear HS_
          refine ⟨_, rfl, ?_⟩
          refine hK.out _ _ (⟨blk_cellv (HS.out.at0) 2 rfl, blk_cellv (HS.out.at0) 0 rfl, blk_cellv (HS.out.at0) 1 rfl⟩) (fun hHeld => ?_)
          clear hK K
          refine norm_ (a' := ?_) ?_ ?_
          rotate_left
          · show Act.put _ (some 21) _ = _
            simp only [Act.put, List.setIfInBounds_toArray, List.set_cons_zero, List.set_cons_succ, i64_w, i32_w]
            rfl
          refine pure_ (i := 13) (N := some 25) (v := ?_) (a' := ?_) #[true, true, true, true, true, true, true, true, true, true, true, true, true, true, true, false] rfl rfl (by kernel_rfl) (fun _ _ _ h => h) (Or.inl ⟨by rfl, ?_⟩) ?_ ?_
          rotate_left
          · intro w'
            go_simp
            with_reducible rfl
          rotate_left
          · simp only [Act.put, List.setIfInBounds_toArray, List.set_cons_zero, List.set_cons_succ, i64_w, i32_w]
            rfl
          refine one_ (i := 15) (N := none) #[true, true, true, true, true, true, true, true, true, true, true, true, true, true, true, true] rfl rfl (by kernel_rfl) (by decide) (fun K hK => ?_)
          have hc417 := blk_cellv (v := .int .i64 0) (HS.out.at3) 0 rfl
          have hz418 := blk_fz (HS.out.at3) 0
          have hc419 := blk_cellv (v := .int .i64 0) (HS.out.at3) 1 rfl
          have hz420 := blk_fz (HS.out.at3) 1
          have hc421 := blk_cellv (v := .int .i64 0) (HS.out.at3) 2 rfl
          have hz422 := blk_fz (HS.out.at3) 2
          have hc423 := blk_cellv (v := .int .i64 0) (HS.out.at3) 3 rfl
          have hz424 := blk_fz (HS.out.at3) 3
          have hc425 := blk_cellv (v := .int .i64 0) (HS.out.at3) 4 rfl
          have hz426 := blk_fz (HS.out.at3) 4
          have hc427 := blk_cellv (v := .int .i64 0) (HS.out.at3) 5 rfl
          have hz428 := blk_fz (HS.out.at3) 5
          have hc429 := blk_cellv (v := .int .i64 0) (HS.out.at3) 6 rfl
          have hz430 := blk_fz (HS.out.at3) 6
          have hc431 := blk_cellv (v := .int .i64 0) (HS.out.at3) 7 rfl
          have hz432 := blk_fz (HS.out.at3) 7
          refine store_step (w1 := (World.setCell (World.setCell (World.setCell (World.setCell (World.setCell (World.setCell (World.setCell (World.setCell w415 ⟨g406, 0, none⟩ (.int .i64 t303)) ⟨g406, 1, none⟩ (.int .i64 (wrap64 (a184 - 8)))) ⟨g406, 2, none⟩ (.int .i64 0)) ⟨g406, 3, none⟩ (.int .i64 0)) ⟨g406, 4, none⟩ (.int .i64 0)) ⟨g406, 5, none⟩ (.int .i64 0)) ⟨g406, 6, none⟩ (.int .i64 0)) ⟨g406, 7, none⟩ (.int .i64 0))) (by rfl) rfl ?hr ?_
          case hr => first | (go_simp; done) | (go_simp; rfl)
          clear hc417 hz418 hc419 hz420 hc421 hz422 hc423 hz424 hc425 hz426 hc427 hz428 hc429 hz430 hc431 hz432
          intro w416 hst
          have hq0 : Sep (fps []) w [blk g187 #[.int .i64 a183, .int .i64 a184, .int .i64 a185, .int .i64 a186] 32, blk g190 #[.int .i64 0, .int .i64 0, .int .i64 0, .int .i64 0, .int .i64 0, .int .i64 0, .int .i64 0, .int .i64 0] 38, blk g329 #[.int .i64 a183, .int .i64 a184] 3, blk g406 #[.int .i64 t303, .int .i64 0, .int .i64 0, .int .i64 0, .int .i64 0, .int .i64 0, .int .i64 0, .int .i64 0] 38, blk g411 #[.int .i64 24, .int .i64 a185, .int .i64 t277] 3] (World.setCell w415 ⟨g406, 0, none⟩ (.int .i64 t303)) := (HS.out).set1 (l1 := [blk g187 #[.int .i64 a183, .int .i64 a184, .int .i64 a185, .int .i64 a186] 32, blk g190 #[.int .i64 0, .int .i64 0, .int .i64 0, .int .i64 0, .int .i64 0, .int .i64 0, .int .i64 0, .int .i64 0] 38, blk g329 #[.int .i64 a183, .int .i64 a184] 3]) (l2 := [blk g411 #[.int .i64 24, .int .i64 a185, .int .i64 t277] 3]) 0 (.int .i64 t303)
          have hq1 : Sep (fps []) w [blk g187 #[.int .i64 a183, .int .i64 a184, .int .i64 a185, .int .i64 a186] 32, blk g190 #[.int .i64 0, .int .i64 0, .int .i64 0, .int .i64 0, .int .i64 0, .int .i64 0, .int .i64 0, .int .i64 0] 38, blk g329 #[.int .i64 a183, .int .i64 a184] 3, blk g406 #[.int .i64 t303, .int .i64 (wrap64 (a184 - 8)), .int .i64 0, .int .i64 0, .int .i64 0, .int .i64 0, .int .i64 0, .int .i64 0] 38, blk g411 #[.int .i64 24, .int .i64 a185, .int .i64 t277] 3] (World.setCell (World.setCell w415 ⟨g406, 0, none⟩ (.int .i64 t303)) ⟨g406, 1, none⟩ (.int .i64 (wrap64 (a184 - 8)))) := (hq0).set1 (l1 := [blk g187 #[.int .i64 a183, .int .i64 a184, .int .i64 a185, .int .i64 a186] 32, blk g190 #[.int .i64 0, .int .i64 0, .int .i64 0, .int .i64 0, .int .i64 0, .int .i64 0, .int .i64 0, .int .i64 0] 38, blk g329 #[.int .i64 a183, .int .i64 a184] 3]) (l2 := [blk g411 #[.int .i64 24, .int .i64 a185, .int .i64 t277] 3]) 1 (.int .i64 (wrap64 (a184 - 8)))
          have hq2 : Sep (fps []) w [blk g187 #[.int .i64 a183, .int .i64 a184, .int .i64 a185, .int .i64 a186] 32, blk g190 #[.int .i64 0, .int .i64 0, .int .i64 0, .int .i64 0, .int .i64 0, .int .i64 0, .int .i64 0, .int .i64 0] 38, blk g329 #[.int .i64 a183, .int .i64 a184] 3, blk g406 #[.int .i64 t303, .int .i64 (wrap64 (a184 - 8)), .int .i64 0, .int .i64 0, .int .i64 0, .int .i64 0, .int .i64 0, .int .i64 0] 38, blk g411 #[.int .i64 24, .int .i64 a185, .int .i64 t277] 3] (World.setCell (World.setCell (World.setCell w415 ⟨g406, 0, none⟩ (.int .i64 t303)) ⟨g406, 1, none⟩ (.int .i64 (wrap64 (a184 - 8)))) ⟨g406, 2, none⟩ (.int .i64 0)) := (hq1).set1 (l1 := [blk g187 #[.int .i64 a183, .int .i64 a184, .int .i64 a185, .int .i64 a186] 32, blk g190 #[.int .i64 0, .int .i64 0, .int .i64 0, .int .i64 0, .int .i64 0, .int .i64 0, .int .i64 0, .int .i64 0] 38, blk g329 #[.int .i64 a183, .int .i64 a184] 3]) (l2 := [blk g411 #[.int .i64 24, .int .i64 a185, .int .i64 t277] 3]) 2 (.int .i64 0)
          have hq3 : Sep (fps []) w [blk g187 #[.int .i64 a183, .int .i64 a184, .int .i64 a185, .int .i64 a186] 32, blk g190 #[.int .i64 0, .int .i64 0, .int .i64 0, .int .i64 0, .int .i64 0, .int .i64 0, .int .i64 0, .int .i64 0] 38, blk g329 #[.int .i64 a183, .int .i64 a184] 3, blk g406 #[.int .i64 t303, .int .i64 (wrap64 (a184 - 8)), .int .i64 0, .int .i64 0, .int .i64 0, .int .i64 0, .int .i64 0, .int .i64 0] 38, blk g411 #[.int .i64 24, .int .i64 a185, .int .i64 t277] 3] (World.setCell (World.setCell (World.setCell (World.setCell w415 ⟨g406, 0, none⟩ (.int .i64 t303)) ⟨g406, 1, none⟩ (.int .i64 (wrap64 (a184 - 8)))) ⟨g406, 2, none⟩ (.int .i64 0)) ⟨g406, 3, none⟩ (.int .i64 0)) := (hq2).set1 (l1 := [blk g187 #[.int .i64 a183, .int .i64 a184, .int .i64 a185, .int .i64 a186] 32, blk g190 #[.int .i64 0, .int .i64 0, .int .i64 0, .int .i64 0, .int .i64 0, .int .i64 0, .int .i64 0, .int .i64 0] 38, blk g329 #[.int .i64 a183, .int .i64 a184] 3]) (l2 := [blk g411 #[.int .i64 24, .int .i64 a185, .int .i64 t277] 3]) 3 (.int .i64 0)
          have hq4 : Sep (fps []) w [blk g187 #[.int .i64 a183, .int .i64 a184, .int .i64 a185, .int .i64 a186] 32, blk g190 #[.int .i64 0, .int .i64 0, .int .i64 0, .int .i64 0, .int .i64 0, .int .i64 0, .int .i64 0, .int .i64 0] 38, blk g329 #[.int .i64 a183, .int .i64 a184] 3, blk g406 #[.int .i64 t303, .int .i64 (wrap64 (a184 - 8)), .int .i64 0, .int .i64 0, .int .i64 0, .int .i64 0, .int .i64 0, .int .i64 0] 38, blk g411 #[.int .i64 24, .int .i64 a185, .int .i64 t277] 3] (World.setCell (World.setCell (World.setCell (World.setCell (World.setCell w415 ⟨g406, 0, none⟩ (.int .i64 t303)) ⟨g406, 1, none⟩ (.int .i64 (wrap64 (a184 - 8)))) ⟨g406, 2, none⟩ (.int .i64 0)) ⟨g406, 3, none⟩ (.int .i64 0)) ⟨g406, 4, none⟩ (.int .i64 0)) := (hq3).set1 (l1 := [blk g187 #[.int .i64 a183, .int .i64 a184, .int .i64 a185, .int .i64 a186] 32, blk g190 #[.int .i64 0, .int .i64 0, .int .i64 0, .int .i64 0, .int .i64 0, .int .i64 0, .int .i64 0, .int .i64 0] 38, blk g329 #[.int .i64 a183, .int .i64 a184] 3]) (l2 := [blk g411 #[.int .i64 24, .int .i64 a185, .int .i64 t277] 3]) 4 (.int .i64 0)
          have hq5 : Sep (fps []) w [blk g187 #[.int .i64 a183, .int .i64 a184, .int .i64 a185, .int .i64 a186] 32, blk g190 #[.int .i64 0, .int .i64 0, .int .i64 0, .int .i64 0, .int .i64 0, .int .i64 0, .int .i64 0, .int .i64 0] 38, blk g329 #[.int .i64 a183, .int .i64 a184] 3, blk g406 #[.int .i64 t303, .int .i64 (wrap64 (a184 - 8)), .int .i64 0, .int .i64 0, .int .i64 0, .int .i64 0, .int .i64 0, .int .i64 0] 38, blk g411 #[.int .i64 24, .int .i64 a185, .int .i64 t277] 3] (World.setCell (World.setCell (World.setCell (World.setCell (World.setCell (World.setCell w415 ⟨g406, 0, none⟩ (.int .i64 t303)) ⟨g406, 1, none⟩ (.int .i64 (wrap64 (a184 - 8)))) ⟨g406, 2, none⟩ (.int .i64 0)) ⟨g406, 3, none⟩ (.int .i64 0)) ⟨g406, 4, none⟩ (.int .i64 0)) ⟨g406, 5, none⟩ (.int .i64 0)) := (hq4).set1 (l1 := [blk g187 #[.int .i64 a183, .int .i64 a184, .int .i64 a185, .int .i64 a186] 32, blk g190 #[.int .i64 0, .int .i64 0, .int .i64 0, .int .i64 0, .int .i64 0, .int .i64 0, .int .i64 0, .int .i64 0] 38, blk g329 #[.int .i64 a183, .int .i64 a184] 3]) (l2 := [blk g411 #[.int .i64 24, .int .i64 a185, .int .i64 t277] 3]) 5 (.int .i64 0)
          have hq6 : Sep (fps []) w [blk g187 #[.int .i64 a183, .int .i64 a184, .int .i64 a185, .int .i64 a186] 32, blk g190 #[.int .i64 0, .int .i64 0, .int .i64 0, .int .i64 0, .int .i64 0, .int .i64 0, .int .i64 0, .int .i64 0] 38, blk g329 #[.int .i64 a183, .int .i64 a184] 3, blk g406 #[.int .i64 t303, .int .i64 (wrap64 (a184 - 8)), .int .i64 0, .int .i64 0, .int .i64 0, .int .i64 0, .int .i64 0, .int .i64 0] 38, blk g411 #[.int .i64 24, .int .i64 a185, .int .i64 t277] 3] (World.setCell (World.setCell (World.setCell (World.setCell (World.setCell (World.setCell (World.setCell w415 ⟨g406, 0, none⟩ (.int .i64 t303)) ⟨g406, 1, none⟩ (.int .i64 (wrap64 (a184 - 8)))) ⟨g406, 2, none⟩ (.int .i64 0)) ⟨g406, 3, none⟩ (.int .i64 0)) ⟨g406, 4, none⟩ (.int .i64 0)) ⟨g406, 5, none⟩ (.int .i64 0)) ⟨g406, 6, none⟩ (.int .i64 0)) := (hq5).set1 (l1 := [blk g187 #[.int .i64 a183, .int .i64 a184, .int .i64 a185, .int .i64 a186] 32, blk g190 #[.int .i64 0, .int .i64 0, .int .i64 0, .int .i64 0, .int .i64 0, .int .i64 0, .int .i64 0, .int .i64 0] 38, blk g329 #[.int .i64 a183, .int .i64 a184] 3]) (l2 := [blk g411 #[.int .i64 24, .int .i64 a185, .int .i64 t277] 3]) 6 (.int .i64 0)
          have hq7 : Sep (fps []) w [blk g187 #[.int .i64 a183, .int .i64 a184, .int .i64 a185, .int .i64 a186] 32, blk g190 #[.int .i64 0, .int .i64 0, .int .i64 0, .int .i64 0, .int .i64 0, .int .i64 0, .int .i64 0, .int .i64 0] 38, blk g329 #[.int .i64 a183, .int .i64 a184] 3, blk g406 #[.int .i64 t303, .int .i64 (wrap64 (a184 - 8)), .int .i64 0, .int .i64 0, .int .i64 0, .int .i64 0, .int .i64 0, .int .i64 0] 38, blk g411 #[.int .i64 24, .int .i64 a185, .int .i64 t277] 3] (World.setCell (World.setCell (World.setCell (World.setCell (World.setCell (World.setCell (World.setCell (World.setCell w415 ⟨g406, 0, none⟩ (.int .i64 t303)) ⟨g406, 1, none⟩ (.int .i64 (wrap64 (a184 - 8)))) ⟨g406, 2, none⟩ (.int .i64 0)) ⟨g406, 3, none⟩ (.int .i64 0)) ⟨g406, 4, none⟩ (.int .i64 0)) ⟨g406, 5, none⟩ (.int .i64 0)) ⟨g406, 6, none⟩ (.int .i64 0)) ⟨g406, 7, none⟩ (.int .i64 0)) := (hq6).set1 (l1 := [blk g187 #[.int .i64 a183, .int .i64 a184, .int .i64 a185, .int .i64 a186] 32, blk g190 #[.int .i64 0, .int .i64 0, .int .i64 0, .int .i64 0, .int .i64 0, .int .i64 0, .int .i64 0, .int .i64 0] 38, blk g329 #[.int .i64 a183, .int .i64 a184] 3]) (l2 := [blk g411 #[.int .i64 24, .int .i64 a185, .int .i64 t277] 3]) 7 (.int .i64 0)
          have HS_ : Aside0 (Sep (fps []) w [blk g187 #[.int .i64 a183, .int .i64 a184, .int .i64 a185, .int .i64 a186] 32, blk g190 #[.int .i64 0, .int .i64 0, .int .i64 0, .int .i64 0, .int .i64 0, .int .i64 0, .int .i64 0, .int .i64 0] 38, blk g329 #[.int .i64 a183, .int .i64 a184] 3, blk g406 #[.int .i64 t303, .int .i64 (wrap64 (a184 - 8)), .int .i64 0, .int .i64 0, .int .i64 0, .int .i64 0, .int .i64 0, .int .i64 0] 38, blk g411 #[.int .i64 24, .int .i64 a185, .int .i64 t277] 3] w416) := ⟨by rw [hst]; exact hq7⟩
          clear hq0 hq1 hq2 hq3 hq4 hq5 hq6 hq7
          clear HS hst
          have HS := HS_
          clear HS_
          refine hK.out _ _ (⟨blk_cellv (HS.out.at0) 2 rfl, blk_cellv (HS.out.at0) 0 rfl, blk_cellv (HS.out.at0) 1 rfl⟩) (fun hHeld => ?_)
          clear hK K
          refine done_ (by kernel_rfl) ?_
          go_wp2_with fail
          go_meet
          case rel => exact ⟨g329, g411, g406, (by first | rfl | (simp [IntKind.wrap_u32]; done)), ⟨(((((HS.out).front 3 (by simp)).front 4 (by simp)).front 4 (by simp)).front 4 (by simp)).front 4 (by simp)⟩⟩
      · refine box_step (by rfl) (N := 5) rfl (cs := #[.int .i64 0, .int .i64 0, .int .i64 0, .int .i64 0, .int .i64 0, .int .i64 0, .int .i64 0, .int .i64 0]) (t := 38) ?hr ?_
        case hr => first | (go_simp; done) | (go_simp; rfl)
        intro g433 hg w434 hbox hb
        have HS_ : Aside0 (Sep (fps []) w [blk g187 #[.int .i64 a183, .int .i64 a184, .int .i64 a185, .int .i64 a186] 32, blk g190 #[.int .i64 0, .int .i64 0, .int .i64 0, .int .i64 0, .int .i64 0, .int .i64 0, .int .i64 0, .int .i64 0] 38, blk g433 #[.int .i64 0, .int .i64 0, .int .i64 0, .int .i64 0, .int .i64 0, .int .i64 0, .int .i64 0, .int .i64 0] 38] w434) := ⟨HS.out.box hg hbox hb⟩
        clear HS hg hbox hb
        have HS := HS_
        clear HS_
        refine hK.out _ _ (⟨blk_cellv (HS.out.at0) 2 rfl, blk_cellv (HS.out.at0) 0 rfl, blk_cellv (HS.out.at0) 1 rfl⟩) (fun hHeld => ?_)
        clear hK K
        refine norm_ (a' := ?_) ?_ ?_
        rotate_left
        · show Act.put _ (some 5) _ = _
          simp only [Act.put, List.setIfInBounds_toArray, List.set_cons_zero, List.set_cons_succ, i64_w, i32_w]
          rfl
        refine one_ (i := 6) (N := some 18) #[true, true, true, true, true, true, true, false, false, false, true, true, true, false, true, false] rfl rfl (by kernel_rfl) (by decide) (fun K hK => ?_)
        refine slice_step (n := 2) (by rfl) (N := 18) rfl (cs := #[.int .i64 a183, .int .i64 a184]) (t := 3) ?hr ?_
        case hr => first | (go_simp; done) | (go_simp; rfl)
        intro g436 hg w437 hbox hb
        have HS_ : Aside0 (Sep (fps []) w [blk g187 #[.int .i64 a183, .int .i64 a184, .int .i64 a185, .int .i64 a186] 32, blk g190 #[.int .i64 0, .int .i64 0, .int .i64 0, .int .i64 0, .int .i64 0, .int .i64 0, .int .i64 0, .int .i64 0] 38, blk g433 #[.int .i64 0, .int .i64 0, .int .i64 0, .int .i64 0, .int .i64 0, .int .i64 0, .int .i64 0, .int .i64 0] 38, blk g436 #[.int .i64 a183, .int .i64 a184] 3] w437) := ⟨HS.out.box hg hbox hb⟩
        clear HS hg hbox hb
        have HS := HS_
        clear HS_
        refine hK.out _ _ (⟨blk_cellv (HS.out.at0) 2 rfl, blk_cellv (HS.out.at0) 0 rfl, blk_cellv (HS.out.at0) 1 rfl⟩) (fun hHeld => ?_)
        clear hK K
        refine norm_ (a' := ?_) ?_ ?_
        rotate_left
        · show Act.put _ (some 18) _ = _
          simp only [Act.put, List.setIfInBounds_toArray, List.set_cons_zero, List.set_cons_succ, i64_w, i32_w]
          rfl
        refine one_ (i := 7) (N := some 19) #[true, true, true, true, true, true, true, true, false, false, true, true, true, false, true, false] rfl rfl (by kernel_rfl) (by decide) (fun K hK => ?_)
        refine goes_ Try.func42 (by kernel_rfl) rfl #[.slice (some ⟨g436, 0, none⟩) 2 2] (by rfl) rfl rfl (by (try simp only [List.map_toArray, List.map_cons, List.map_nil]); first | done | rfl) ?_
        refine (ratio_Mul.calls _ [a183, a184] (some ⟨g436, 0, none⟩) 2 t277 _ ⟨C_of_blk (xs := [a183, a184]) (HS.out.at3) (by simp)⟩ ⟨HS.out.begin (l := []) (rest := [blk g187 #[.int .i64 a183, .int .i64 a184, .int .i64 a185, .int .i64 a186] 32, blk g190 #[.int .i64 0, .int .i64 0, .int .i64 0, .int .i64 0, .int .i64 0, .int .i64 0, .int .i64 0, .int .i64 0] 38, blk g433 #[.int .i64 0, .int .i64 0, .int .i64 0, .int .i64 0, .int .i64 0, .int .i64 0, .int .i64 0, .int .i64 0] 38, blk g436 #[.int .i64 a183, .int .i64 a184] 3])⟩ HA278).mono ?_
        rintro e_ w440 ⟨rfl, hS⟩
        have HS_ : Aside0 (Sep (fps []) w [blk g187 #[.int .i64 a183, .int .i64 a184, .int .i64 a185, .int .i64 a186] 32, blk g190 #[.int .i64 0, .int .i64 0, .int .i64 0, .int .i64 0, .int .i64 0, .int .i64 0, .int .i64 0, .int .i64 0] 38, blk g433 #[.int .i64 0, .int .i64 0, .int .i64 0, .int .i64 0, .int .i64 0, .int .i64 0, .int .i64 0, .int .i64 0] 38, blk g436 #[.int .i64 a183, .int .i64 a184] 3] w440) := ⟨HS.out.call (l := []) (rest := [blk g187 #[.int .i64 a183, .int .i64 a184, .int .i64 a185, .int .i64 a186] 32, blk g190 #[.int .i64 0, .int .i64 0, .int .i64 0, .int .i64 0, .int .i64 0, .int .i64 0, .int .i64 0, .int .i64 0] 38, blk g433 #[.int .i64 0, .int .i64 0, .int .i64 0, .int .i64 0, .int .i64 0, .int .i64 0, .int .i64 0, .int .i64 0] 38, blk g436 #[.int .i64 a183, .int .i64 a184] 3]) hS⟩
        clear HS hS
        have HS := HS_
        clear HS_
        refine ⟨_, rfl, ?_⟩
        refine hK.out _ _ (⟨blk_cellv (HS.out.at0) 2 rfl, blk_cellv (HS.out.at0) 0 rfl, blk_cellv (HS.out.at0) 1 rfl⟩) (fun hHeld => ?_)
        clear hK K
        refine norm_ (a' := ?_) ?_ ?_
        rotate_left
        · show Act.put _ (some 19) _ = _
          simp only [Act.put, List.setIfInBounds_toArray, List.set_cons_zero, List.set_cons_succ, i64_w, i32_w]
          rfl
        refine one_ (i := 8) (N := some 20) #[true, true, true, true, true, true, true, true, true, false, true, true, true, false, true, false] rfl rfl (by kernel_rfl) (by decide) (fun K hK => ?_)
        refine slice_step (n := 3) (by rfl) (N := 20) rfl (cs := #[.int .i64 24, .int .i64 a185, .int .i64 t277]) (t := 3) ?hr ?_
        case hr => first | (go_simp; done) | (go_simp; rfl)
        intro g441 hg w442 hbox hb
        have HS_ : Aside0 (Sep (fps []) w [blk g187 #[.int .i64 a183, .int .i64 a184, .int .i64 a185, .int .i64 a186] 32, blk g190 #[.int .i64 0, .int .i64 0, .int .i64 0, .int .i64 0, .int .i64 0, .int .i64 0, .int .i64 0, .int .i64 0] 38, blk g433 #[.int .i64 0, .int .i64 0, .int .i64 0, .int .i64 0, .int .i64 0, .int .i64 0, .int .i64 0, .int .i64 0] 38, blk g436 #[.int .i64 a183, .int .i64 a184] 3, blk g441 #[.int .i64 24, .int .i64 a185, .int .i64 t277] 3] w442) := ⟨HS.out.box hg hbox hb⟩
        clear HS hg hbox hb
        have HS := HS_
        clear HS_
        refine hK.out _ _ (⟨blk_cellv (HS.out.at0) 2 rfl, blk_cellv (HS.out.at0) 0 rfl, blk_cellv (HS.out.at0) 1 rfl⟩) (fun hHeld => ?_)
        clear hK K
        refine norm_ (a' := ?_) ?_ ?_
        rotate_left
        · show Act.put _ (some 20) _ = _
          simp only [Act.put, List.setIfInBounds_toArray, List.set_cons_zero, List.set_cons_succ, i64_w, i32_w]
          rfl
        refine one_ (i := 9) (N := some 21) #[true, true, true, true, true, true, true, true, true, true, true, true, true, false, true, false] rfl rfl (by kernel_rfl) (by decide) (fun K hK => ?_)
        refine goes_ Try.func41 (by kernel_rfl) rfl #[.slice (some ⟨g441, 0, none⟩) 3 3] (by rfl) rfl rfl (by (try simp only [List.map_toArray, List.map_cons, List.map_nil]); first | done | rfl) ?_
        refine (ratio_Add.calls _ [24, a185, t277] (some ⟨g441, 0, none⟩) 3 t303 _ ⟨C_of_blk (xs := [24, a185, t277]) (HS.out.at4) (by simp)⟩ ⟨HS.out.begin (l := []) (rest := [blk g187 #[.int .i64 a183, .int .i64 a184, .int .i64 a185, .int .i64 a186] 32, blk g190 #[.int .i64 0, .int .i64 0, .int .i64 0, .int .i64 0, .int .i64 0, .int .i64 0, .int .i64 0, .int .i64 0] 38, blk g433 #[.int .i64 0, .int .i64 0, .int .i64 0, .int .i64 0, .int .i64 0, .int .i64 0, .int .i64 0, .int .i64 0] 38, blk g436 #[.int .i64 a183, .int .i64 a184] 3, blk g441 #[.int .i64 24, .int .i64 a185, .int .i64 t277] 3])⟩ HA304).mono ?_
        rintro e_ w445 ⟨rfl, hS⟩
        have HS_ : Aside0 (Sep (fps []) w [blk g187 #[.int .i64 a183, .int .i64 a184, .int .i64 a185, .int .i64 a186] 32, blk g190 #[.int .i64 0, .int .i64 0, .int .i64 0, .int .i64 0, .int .i64 0, .int .i64 0, .int .i64 0, .int .i64 0] 38, blk g433 #[.int .i64 0, .int .i64 0, .int .i64 0, .int .i64 0, .int .i64 0, .int .i64 0, .int .i64 0, .int .i64 0] 38, blk g436 #[.int .i64 a183, .int .i64 a184] 3, blk g441 #[.int .i64 24, .int .i64 a185, .int .i64 t277] 3] w445) := ⟨HS.out.call (l := []) (rest := [blk g187 #[.int .i64 a183, .int .i64 a184, .int .i64 a185, .int .i64 a186] 32, blk g190 #[.int .i64 0, .int .i64 0, .int .i64 0, .int .i64 0, .int .i64 0, .int .i64 0, .int .i64 0, .int .i64 0] 38, blk g433 #[.int .i64 0, .int .i64 0, .int .i64 0, .int .i64 0, .int .i64 0, .int .i64 0, .int .i64 0, .int .i64 0] 38, blk g436 #[.int .i64 a183, .int .i64 a184] 3, blk g441 #[.int .i64 24, .int .i64 a185, .int .i64 t277] 3]) hS⟩
        clear HS hS
        have HS := HS_
        clear HS_
        refine ⟨_, rfl, ?_⟩
        refine hK.out _ _ (⟨blk_cellv (HS.out.at0) 2 rfl, blk_cellv (HS.out.at0) 0 rfl, blk_cellv (HS.out.at0) 1 rfl⟩) (fun hHeld => ?_)
        clear hK K
        refine norm_ (a' := ?_) ?_ ?_
        rotate_left
        · show Act.put _ (some 21) _ = _
          simp only [Act.put, List.setIfInBounds_toArray, List.set_cons_zero, List.set_cons_succ, i64_w, i32_w]
          rfl
        refine pure_ (i := 13) (N := some 25) (v := ?_) (a' := ?_) #[true, true, true, true, true, true, true, true, true, true, true, true, true, true, true, false] rfl rfl (by kernel_rfl) (fun _ _ _ h => h) (Or.inl ⟨by rfl, ?_⟩) ?_ ?_
        rotate_left
        · intro w'
          go_simp
          with_reducible rfl
        rotate_left
        · simp only [Act.put, List.setIfInBounds_toArray, List.set_cons_zero, List.set_cons_succ, i64_w, i32_w]
          rfl
        refine one_ (i := 15) (N := none) #[true, true, true, true, true, true, true, true, true, true, true, true, true, true, true, true] rfl rfl (by kernel_rfl) (by decide) (fun K hK => ?_)
        have hc447 := blk_cellv (v := .int .i64 0) (HS.out.at2) 0 rfl
        have hz448 := blk_fz (HS.out.at2) 0
        have hc449 := blk_cellv (v := .int .i64 0) (HS.out.at2) 1 rfl
        have hz450 := blk_fz (HS.out.at2) 1
        have hc451 := blk_cellv (v := .int .i64 0) (HS.out.at2) 2 rfl
        have hz452 := blk_fz (HS.out.at2) 2
        have hc453 := blk_cellv (v := .int .i64 0) (HS.out.at2) 3 rfl
        have hz454 := blk_fz (HS.out.at2) 3
        have hc455 := blk_cellv (v := .int .i64 0) (HS.out.at2) 4 rfl
        have hz456 := blk_fz (HS.out.at2) 4
        have hc457 := blk_cellv (v := .int .i64 0) (HS.out.at2) 5 rfl
        have hz458 := blk_fz (HS.out.at2) 5
        have hc459 := blk_cellv (v := .int .i64 0) (HS.out.at2) 6 rfl
        have hz460 := blk_fz (HS.out.at2) 6
        have hc461 := blk_cellv (v := .int .i64 0) (HS.out.at2) 7 rfl
        have hz462 := blk_fz (HS.out.at2) 7
        refine store_step (w1 := (World.setCell (World.setCell (World.setCell (World.setCell (World.setCell (World.setCell (World.setCell (World.setCell w445 ⟨g433, 0, none⟩ (.int .i64 t303)) ⟨g433, 1, none⟩ (.int .i64 (wrap64 (a184 - 8)))) ⟨g433, 2, none⟩ (.int .i64 0)) ⟨g433, 3, none⟩ (.int .i64 0)) ⟨g433, 4, none⟩ (.int .i64 0)) ⟨g433, 5, none⟩ (.int .i64 0)) ⟨g433, 6, none⟩ (.int .i64 0)) ⟨g433, 7, none⟩ (.int .i64 0))) (by rfl) rfl ?hr ?_
        case hr => first | (go_simp; done) | (go_simp; rfl)
        clear hc447 hz448 hc449 hz450 hc451 hz452 hc453 hz454 hc455 hz456 hc457 hz458 hc459 hz460 hc461 hz462
        intro w446 hst
        have hq0 : Sep (fps []) w [blk g187 #[.int .i64 a183, .int .i64 a184, .int .i64 a185, .int .i64 a186] 32, blk g190 #[.int .i64 0, .int .i64 0, .int .i64 0, .int .i64 0, .int .i64 0, .int .i64 0, .int .i64 0, .int .i64 0] 38, blk g433 #[.int .i64 t303, .int .i64 0, .int .i64 0, .int .i64 0, .int .i64 0, .int .i64 0, .int .i64 0, .int .i64 0] 38, blk g436 #[.int .i64 a183, .int .i64 a184] 3, blk g441 #[.int .i64 24, .int .i64 a185, .int .i64 t277] 3] (World.setCell w445 ⟨g433, 0, none⟩ (.int .i64 t303)) := (HS.out).set1 (l1 := [blk g187 #[.int .i64 a183, .int .i64 a184, .int .i64 a185, .int .i64 a186] 32, blk g190 #[.int .i64 0, .int .i64 0, .int .i64 0, .int .i64 0, .int .i64 0, .int .i64 0, .int .i64 0, .int .i64 0] 38]) (l2 := [blk g436 #[.int .i64 a183, .int .i64 a184] 3, blk g441 #[.int .i64 24, .int .i64 a185, .int .i64 t277] 3]) 0 (.int .i64 t303)
        have hq1 : Sep (fps []) w [blk g187 #[.int .i64 a183, .int .i64 a184, .int .i64 a185, .int .i64 a186] 32, blk g190 #[.int .i64 0, .int .i64 0, .int .i64 0, .int .i64 0, .int .i64 0, .int .i64 0, .int .i64 0, .int .i64 0] 38, blk g433 #[.int .i64 t303, .int .i64 (wrap64 (a184 - 8)), .int .i64 0, .int .i64 0, .int .i64 0, .int .i64 0, .int .i64 0, .int .i64 0] 38, blk g436 #[.int .i64 a183, .int .i64 a184] 3, blk g441 #[.int .i64 24, .int .i64 a185, .int .i64 t277] 3] (World.setCell (World.setCell w445 ⟨g433, 0, none⟩ (.int .i64 t303)) ⟨g433, 1, none⟩ (.int .i64 (wrap64 (a184 - 8)))) := (hq0).set1 (l1 := [blk g187 #[.int .i64 a183, .int .i64 a184, .int .i64 a185, .int .i64 a186] 32, blk g190 #[.int .i64 0, .int .i64 0, .int .i64 0, .int .i64 0, .int .i64 0, .int .i64 0, .int .i64 0, .int .i64 0] 38]) (l2 := [blk g436 #[.int .i64 a183, .int .i64 a184] 3, blk g441 #[.int .i64 24, .int .i64 a185, .int .i64 t277] 3]) 1 (.int .i64 (wrap64 (a184 - 8)))
        have hq2 : Sep (fps []) w [blk g187 #[.int .i64 a183, .int .i64 a184, .int .i64 a185, .int .i64 a186] 32, blk g190 #[.int .i64 0, .int .i64 0, .int .i64 0, .int .i64 0, .int .i64 0, .int .i64 0, .int .i64 0, .int .i64 0] 38, blk g433 #[.int .i64 t303, .int .i64 (wrap64 (a184 - 8)), .int .i64 0, .int .i64 0, .int .i64 0, .int .i64 0, .int .i64 0, .int .i64 0] 38, blk g436 #[.int .i64 a183, .int .i64 a184] 3, blk g441 #[.int .i64 24, .int .i64 a185, .int .i64 t277] 3] (World.setCell (World.setCell (World.setCell w445 ⟨g433, 0, none⟩ (.int .i64 t303)) ⟨g433, 1, none⟩ (.int .i64 (wrap64 (a184 - 8)))) ⟨g433, 2, none⟩ (.int .i64 0)) := (hq1).set1 (l1 := [blk g187 #[.int .i64 a183, .int .i64 a184, .int .i64 a185, .int .i64 a186] 32, blk g190 #[.int .i64 0, .int .i64 0, .int .i64 0, .int .i64 0, .int .i64 0, .int .i64 0, .int .i64 0, .int .i64 0] 38]) (l2 := [blk g436 #[.int .i64 a183, .int .i64 a184] 3, blk g441 #[.int .i64 24, .int .i64 a185, .int .i64 t277] 3]) 2 (.int .i64 0)
        have hq3 : Sep (fps []) w [blk g187 #[.int .i64 a183, .int .i64 a184, .int .i64 a185, .int .i64 a186] 32, blk g190 #[.int .i64 0, .int .i64 0, .int .i64 0, .int .i64 0, .int .i64 0, .int .i64 0, .int .i64 0, .int .i64 0] 38, blk g433 #[.int .i64 t303, .int .i64 (wrap64 (a184 - 8)), .int .i64 0, .int .i64 0, .int .i64 0, .int .i64 0, .int .i64 0, .int .i64 0] 38, blk g436 #[.int .i64 a183, .int .i64 a184] 3, blk g441 #[.int .i64 24, .int .i64 a185, .int .i64 t277] 3] (World.setCell (World.setCell (World.setCell (World.setCell w445 ⟨g433, 0, none⟩ (.int .i64 t303)) ⟨g433, 1, none⟩ (.int .i64 (wrap64 (a184 - 8)))) ⟨g433, 2, none⟩ (.int .i64 0)) ⟨g433, 3, none⟩ (.int .i64 0)) := (hq2).set1 (l1 := [blk g187 #[.int .i64 a183, .int .i64 a184, .int .i64 a185, .int .i64 a186] 32, blk g190 #[.int .i64 0, .int .i64 0, .int .i64 0, .int .i64 0, .int .i64 0, .int .i64 0, .int .i64 0, .int .i64 0] 38]) (l2 := [blk g436 #[.int .i64 a183, .int .i64 a184] 3, blk g441 #[.int .i64 24, .int .i64 a185, .int .i64 t277] 3]) 3 (.int .i64 0)
        have hq4 : Sep (fps []) w [blk g187 #[.int .i64 a183, .int .i64 a184, .int .i64 a185, .int .i64 a186] 32, blk g190 #[.int .i64 0, .int .i64 0, .int .i64 0, .int .i64 0, .int .i64 0, .int .i64 0, .int .i64 0, .int .i64 0] 38, blk g433 #[.int .i64 t303, .int .i64 (wrap64 (a184 - 8)), .int .i64 0, .int .i64 0, .int .i64 0, .int .i64 0, .int .i64 0, .int .i64 0] 38, blk g436 #[.int .i64 a183, .int .i64 a184] 3, blk g441 #[.int .i64 24, .int .i64 a185, .int .i64 t277] 3] (World.setCell (World.setCell (World.setCell (World.setCell (World.setCell w445 ⟨g433, 0, none⟩ (.int .i64 t303)) ⟨g433, 1, none⟩ (.int .i64 (wrap64 (a184 - 8)))) ⟨g433, 2, none⟩ (.int .i64 0)) ⟨g433, 3, none⟩ (.int .i64 0)) ⟨g433, 4, none⟩ (.int .i64 0)) := (hq3).set1 (l1 := [blk g187 #[.int .i64 a183, .int .i64 a184, .int .i64 a185, .int .i64 a186] 32, blk g190 #[.int .i64 0, .int .i64 0, .int .i64 0, .int .i64 0, .int .i64 0, .int .i64 0, .int .i64 0, .int .i64 0] 38]) (l2 := [blk g436 #[.int .i64 a183, .int .i64 a184] 3, blk g441 #[.int .i64 24, .int .i64 a185, .int .i64 t277] 3]) 4 (.int .i64 0)
        have hq5 : Sep (fps []) w [blk g187 #[.int .i64 a183, .int .i64 a184, .int .i64 a185, .int .i64 a186] 32, blk g190 #[.int .i64 0, .int .i64 0, .int .i64 0, .int .i64 0, .int .i64 0, .int .i64 0, .int .i64 0, .int .i64 0] 38, blk g433 #[.int .i64 t303, .int .i64 (wrap64 (a184 - 8)), .int .i64 0, .int .i64 0, .int .i64 0, .int .i64 0, .int .i64 0, .int .i64 0] 38, blk g436 #[.int .i64 a183, .int .i64 a184] 3, blk g441 #[.int .i64 24, .int .i64 a185, .int .i64 t277] 3] (World.setCell (World.setCell (World.setCell (World.setCell (World.setCell (World.setCell w445 ⟨g433, 0, none⟩ (.int .i64 t303)) ⟨g433, 1, none⟩ (.int .i64 (wrap64 (a184 - 8)))) ⟨g433, 2, none⟩ (.int .i64 0)) ⟨g433, 3, none⟩ (.int .i64 0)) ⟨g433, 4, none⟩ (.int .i64 0)) ⟨g433, 5, none⟩ (.int .i64 0)) := (hq4).set1 (l1 := [blk g187 #[.int .i64 a183, .int .i64 a184, .int .i64 a185, .int .i64 a186] 32, blk g190 #[.int .i64 0, .int .i64 0, .int .i64 0, .int .i64 0, .int .i64 0, .int .i64 0, .int .i64 0, .int .i64 0] 38]) (l2 := [blk g436 #[.int .i64 a183, .int .i64 a184] 3, blk g441 #[.int .i64 24, .int .i64 a185, .int .i64 t277] 3]) 5 (.int .i64 0)
        have hq6 : Sep (fps []) w [blk g187 #[.int .i64 a183, .int .i64 a184, .int .i64 a185, .int .i64 a186] 32, blk g190 #[.int .i64 0, .int .i64 0, .int .i64 0, .int .i64 0, .int .i64 0, .int .i64 0, .int .i64 0, .int .i64 0] 38, blk g433 #[.int .i64 t303, .int .i64 (wrap64 (a184 - 8)), .int .i64 0, .int .i64 0, .int .i64 0, .int .i64 0, .int .i64 0, .int .i64 0] 38, blk g436 #[.int .i64 a183, .int .i64 a184] 3, blk g441 #[.int .i64 24, .int .i64 a185, .int .i64 t277] 3] (World.setCell (World.setCell (World.setCell (World.setCell (World.setCell (World.setCell (World.setCell w445 ⟨g433, 0, none⟩ (.int .i64 t303)) ⟨g433, 1, none⟩ (.int .i64 (wrap64 (a184 - 8)))) ⟨g433, 2, none⟩ (.int .i64 0)) ⟨g433, 3, none⟩ (.int .i64 0)) ⟨g433, 4, none⟩ (.int .i64 0)) ⟨g433, 5, none⟩ (.int .i64 0)) ⟨g433, 6, none⟩ (.int .i64 0)) := (hq5).set1 (l1 := [blk g187 #[.int .i64 a183, .int .i64 a184, .int .i64 a185, .int .i64 a186] 32, blk g190 #[.int .i64 0, .int .i64 0, .int .i64 0, .int .i64 0, .int .i64 0, .int .i64 0, .int .i64 0, .int .i64 0] 38]) (l2 := [blk g436 #[.int .i64 a183, .int .i64 a184] 3, blk g441 #[.int .i64 24, .int .i64 a185, .int .i64 t277] 3]) 6 (.int .i64 0)
        have hq7 : Sep (fps []) w [blk g187 #[.int .i64 a183, .int .i64 a184, .int .i64 a185, .int .i64 a186] 32, blk g190 #[.int .i64 0, .int .i64 0, .int .i64 0, .int .i64 0, .int .i64 0, .int .i64 0, .int .i64 0, .int .i64 0] 38, blk g433 #[.int .i64 t303, .int .i64 (wrap64 (a184 - 8)), .int .i64 0, .int .i64 0, .int .i64 0, .int .i64 0, .int .i64 0, .int .i64 0] 38, blk g436 #[.int .i64 a183, .int .i64 a184] 3, blk g441 #[.int .i64 24, .int .i64 a185, .int .i64 t277] 3] (World.setCell (World.setCell (World.setCell (World.setCell (World.setCell (World.setCell (World.setCell (World.setCell w445 ⟨g433, 0, none⟩ (.int .i64 t303)) ⟨g433, 1, none⟩ (.int .i64 (wrap64 (a184 - 8)))) ⟨g433, 2, none⟩ (.int .i64 0)) ⟨g433, 3, none⟩ (.int .i64 0)) ⟨g433, 4, none⟩ (.int .i64 0)) ⟨g433, 5, none⟩ (.int .i64 0)) ⟨g433, 6, none⟩ (.int .i64 0)) ⟨g433, 7, none⟩ (.int .i64 0)) := (hq6).set1 (l1 := [blk g187 #[.int .i64 a183, .int .i64 a184, .int .i64 a185, .int .i64 a186] 32, blk g190 #[.int .i64 0, .int .i64 0, .int .i64 0, .int .i64 0, .int .i64 0, .int .i64 0, .int .i64 0, .int .i64 0] 38]) (l2 := [blk g436 #[.int .i64 a183, .int .i64 a184] 3, blk g441 #[.int .i64 24, .int .i64 a185, .int .i64 t277] 3]) 7 (.int .i64 0)
        have HS_ : Aside0 (Sep (fps []) w [blk g187 #[.int .i64 a183, .int .i64 a184, .int .i64 a185, .int .i64 a186] 32, blk g190 #[.int .i64 0, .int .i64 0, .int .i64 0, .int .i64 0, .int .i64 0, .int .i64 0, .int .i64 0, .int .i64 0] 38, blk g433 #[.int .i64 t303, .int .i64 (wrap64 (a184 - 8)), .int .i64 0, .int .i64 0, .int .i64 0, .int .i64 0, .int .i64 0, .int .i64 0] 38, blk g436 #[.int .i64 a183, .int .i64 a184] 3, blk g441 #[.int .i64 24, .int .i64 a185, .int .i64 t277] 3] w446) := ⟨by rw [hst]; exact hq7⟩
        clear hq0 hq1 hq2 hq3 hq4 hq5 hq6 hq7
        clear HS hst
        have HS := HS_
        clear HS_
        refine hK.out _ _ (⟨blk_cellv (HS.out.at0) 2 rfl, blk_cellv (HS.out.at0) 0 rfl, blk_cellv (HS.out.at0) 1 rfl⟩) (fun hHeld => ?_)
        clear hK K
        refine done_ (by kernel_rfl) ?_
        go_wp2_with fail
        go_meet
        case rel => exact ⟨g436, g441, g433, (by first | rfl | (simp [IntKind.wrap_u32]; done)), ⟨(((((HS.out).front 2 (by simp)).front 4 (by simp)).front 4 (by simp)).front 4 (by simp)).front 4 (by simp)⟩⟩
    case rest =>
      clear HS
      obtain ⟨g203, g280, g306, rfl, HS⟩ := hcut
      obtain ⟨w326, rfl⟩ : ∃ x : World, x = wc := ⟨_, rfl⟩
      have hc463 : w326.cell? ⟨g306, 1, none⟩ = some (.int .i64 (wrap64 (a184 - 8))) := blk_cellv (HS.out.at4) 1 rfl
      have hc464 : w326.cell? ⟨g306, 2, none⟩ = some (.int .i64 0) := blk_cellv (HS.out.at4) 2 rfl
      have hz465 : w326.frozen? ⟨g306, 2, none⟩ = false := blk_fz (HS.out.at4) 2
      go_wp2_with (first | ((with_reducible refine gate_store (t := 3) (p := 29) rfl ?_); refine store_event (w1 := (World.setCell w326 ⟨g306, 2, none⟩ (.int .i64 (wrap64 ((wrap64 (a184 - 8)) + 1))))) rfl (t := 3) (p := 29) rfl rfl ?hr ?_; (case hr => first | (go_simp; done) | (go_simp; rfl)); intro w466 hst; clear hc463 hc464 hz465; have hq0 : Sep (fps []) w [blk g187 #[.int .i64 a183, .int .i64 a184, .int .i64 a185, .int .i64 a186] 32, blk g190 #[.int .i64 0, .int .i64 0, .int .i64 0, .int .i64 0, .int .i64 0, .int .i64 0, .int .i64 0, .int .i64 0] 38, blk g203 #[.int .i64 a183, .int .i64 a184] 3, blk g280 #[.int .i64 24, .int .i64 a185, .int .i64 t277] 3, blk g306 #[.int .i64 t303, .int .i64 (wrap64 (a184 - 8)), .int .i64 (wrap64 ((wrap64 (a184 - 8)) + 1)), .int .i64 0, .int .i64 0, .int .i64 0, .int .i64 0, .int .i64 0] 38] (World.setCell w326 ⟨g306, 2, none⟩ (.int .i64 (wrap64 ((wrap64 (a184 - 8)) + 1)))) := (HS.out).set1 (l1 := [blk g187 #[.int .i64 a183, .int .i64 a184, .int .i64 a185, .int .i64 a186] 32, blk g190 #[.int .i64 0, .int .i64 0, .int .i64 0, .int .i64 0, .int .i64 0, .int .i64 0, .int .i64 0, .int .i64 0] 38, blk g203 #[.int .i64 a183, .int .i64 a184] 3, blk g280 #[.int .i64 24, .int .i64 a185, .int .i64 t277] 3]) (l2 := []) 2 (.int .i64 (wrap64 ((wrap64 (a184 - 8)) + 1))); have HS_ : Aside0 (Sep (fps []) w [blk g187 #[.int .i64 a183, .int .i64 a184, .int .i64 a185, .int .i64 a186] 32, blk g190 #[.int .i64 0, .int .i64 0, .int .i64 0, .int .i64 0, .int .i64 0, .int .i64 0, .int .i64 0, .int .i64 0] 38, blk g203 #[.int .i64 a183, .int .i64 a184] 3, blk g280 #[.int .i64 24, .int .i64 a185, .int .i64 t277] 3, blk g306 #[.int .i64 t303, .int .i64 (wrap64 (a184 - 8)), .int .i64 (wrap64 ((wrap64 (a184 - 8)) + 1)), .int .i64 0, .int .i64 0, .int .i64 0, .int .i64 0, .int .i64 0] 38] w466) := ⟨by rw [hst]; exact hq0⟩; clear hq0; clear HS hst; have HS := HS_; clear HS_; have hc467 : w466.cell? ⟨g306, 1, none⟩ = some (.int .i64 (wrap64 (a184 - 8))) := blk_cellv (HS.out.at4) 1 rfl; have hc468 : w466.cell? ⟨g187, 1, none⟩ = some (.int .i64 a184) := blk_cellv (HS.out.at0) 1 rfl) | ((with_reducible refine gate_dst (N := 35) rfl ?_); refine slice_on (n := 2) ?hg (N := 35) ?hd (cs := #[.int .i64 (wrap64 (a184 - 8)), .int .i64 (wrap64 (a184 - 1))]) (t := 3) ?hr ?_; (case hd => rfl); (case hg => rfl); (case hr => first | (go_simp; done) | (go_simp; rfl)); intro g469 hg w470 hbox hb; clear hc467 hc468; have HS_ : Aside0 (Sep (fps []) w [blk g187 #[.int .i64 a183, .int .i64 a184, .int .i64 a185, .int .i64 a186] 32, blk g190 #[.int .i64 0, .int .i64 0, .int .i64 0, .int .i64 0, .int .i64 0, .int .i64 0, .int .i64 0, .int .i64 0] 38, blk g203 #[.int .i64 a183, .int .i64 a184] 3, blk g280 #[.int .i64 24, .int .i64 a185, .int .i64 t277] 3, blk g306 #[.int .i64 t303, .int .i64 (wrap64 (a184 - 8)), .int .i64 (wrap64 ((wrap64 (a184 - 8)) + 1)), .int .i64 0, .int .i64 0, .int .i64 0, .int .i64 0, .int .i64 0] 38, blk g469 #[.int .i64 (wrap64 (a184 - 8)), .int .i64 (wrap64 (a184 - 1))] 3] w470) := ⟨HS.out.box hg hbox hb⟩; clear HS hg hbox hb; have HS := HS_; clear HS_))
      obtain ⟨t472, HA473, H⟩ := bind_some H
      refine (ratio_Mul.calls _ [wrap64 (a184 - 8), wrap64 (a184 - 1)] (some ⟨g469, 0, none⟩) 2 t472 _ ⟨C_of_blk (xs := [wrap64 (a184 - 8), wrap64 (a184 - 1)]) (HS.out.at5) (by simp)⟩ ⟨HS.out.begin (l := []) (rest := [blk g187 #[.int .i64 a183, .int .i64 a184, .int .i64 a185, .int .i64 a186] 32, blk g190 #[.int .i64 0, .int .i64 0, .int .i64 0, .int .i64 0, .int .i64 0, .int .i64 0, .int .i64 0, .int .i64 0] 38, blk g203 #[.int .i64 a183, .int .i64 a184] 3, blk g280 #[.int .i64 24, .int .i64 a185, .int .i64 t277] 3, blk g306 #[.int .i64 t303, .int .i64 (wrap64 (a184 - 8)), .int .i64 (wrap64 ((wrap64 (a184 - 8)) + 1)), .int .i64 0, .int .i64 0, .int .i64 0, .int .i64 0, .int .i64 0] 38, blk g469 #[.int .i64 (wrap64 (a184 - 8)), .int .i64 (wrap64 (a184 - 1))] 3])⟩ HA473).mono ?_
      rintro e_ w474 ⟨rfl, hS⟩
      have HS_ : Aside0 (Sep (fps []) w [blk g187 #[.int .i64 a183, .int .i64 a184, .int .i64 a185, .int .i64 a186] 32, blk g190 #[.int .i64 0, .int .i64 0, .int .i64 0, .int .i64 0, .int .i64 0, .int .i64 0, .int .i64 0, .int .i64 0] 38, blk g203 #[.int .i64 a183, .int .i64 a184] 3, blk g280 #[.int .i64 24, .int .i64 a185, .int .i64 t277] 3, blk g306 #[.int .i64 t303, .int .i64 (wrap64 (a184 - 8)), .int .i64 (wrap64 ((wrap64 (a184 - 8)) + 1)), .int .i64 0, .int .i64 0, .int .i64 0, .int .i64 0, .int .i64 0] 38, blk g469 #[.int .i64 (wrap64 (a184 - 8)), .int .i64 (wrap64 (a184 - 1))] 3] w474) := ⟨HS.out.call (l := []) (rest := [blk g187 #[.int .i64 a183, .int .i64 a184, .int .i64 a185, .int .i64 a186] 32, blk g190 #[.int .i64 0, .int .i64 0, .int .i64 0, .int .i64 0, .int .i64 0, .int .i64 0, .int .i64 0, .int .i64 0] 38, blk g203 #[.int .i64 a183, .int .i64 a184] 3, blk g280 #[.int .i64 24, .int .i64 a185, .int .i64 t277] 3, blk g306 #[.int .i64 t303, .int .i64 (wrap64 (a184 - 8)), .int .i64 (wrap64 ((wrap64 (a184 - 8)) + 1)), .int .i64 0, .int .i64 0, .int .i64 0, .int .i64 0, .int .i64 0] 38, blk g469 #[.int .i64 (wrap64 (a184 - 8)), .int .i64 (wrap64 (a184 - 1))] 3]) hS⟩
      clear HS hS
      have HS := HS_
      clear HS_
      have hc475 : w474.cell? ⟨g306, 3, none⟩ = some (.int .i64 0) := blk_cellv (HS.out.at4) 3 rfl
      have hz476 : w474.frozen? ⟨g306, 3, none⟩ = false := blk_fz (HS.out.at4) 3
      go_wp2_with (first | ((with_reducible refine gate_store (t := 3) (p := 37) rfl ?_); refine store_event (w1 := (World.setCell w474 ⟨g306, 3, none⟩ (.int .i64 t472))) rfl (t := 3) (p := 37) rfl rfl ?hr ?_; (case hr => first | (go_simp; done) | (go_simp; rfl)); intro w477 hst; clear hc475 hz476; have hq0 : Sep (fps []) w [blk g187 #[.int .i64 a183, .int .i64 a184, .int .i64 a185, .int .i64 a186] 32, blk g190 #[.int .i64 0, .int .i64 0, .int .i64 0, .int .i64 0, .int .i64 0, .int .i64 0, .int .i64 0, .int .i64 0] 38, blk g203 #[.int .i64 a183, .int .i64 a184] 3, blk g280 #[.int .i64 24, .int .i64 a185, .int .i64 t277] 3, blk g306 #[.int .i64 t303, .int .i64 (wrap64 (a184 - 8)), .int .i64 (wrap64 ((wrap64 (a184 - 8)) + 1)), .int .i64 t472, .int .i64 0, .int .i64 0, .int .i64 0, .int .i64 0] 38, blk g469 #[.int .i64 (wrap64 (a184 - 8)), .int .i64 (wrap64 (a184 - 1))] 3] (World.setCell w474 ⟨g306, 3, none⟩ (.int .i64 t472)) := (HS.out).set1 (l1 := [blk g187 #[.int .i64 a183, .int .i64 a184, .int .i64 a185, .int .i64 a186] 32, blk g190 #[.int .i64 0, .int .i64 0, .int .i64 0, .int .i64 0, .int .i64 0, .int .i64 0, .int .i64 0, .int .i64 0] 38, blk g203 #[.int .i64 a183, .int .i64 a184] 3, blk g280 #[.int .i64 24, .int .i64 a185, .int .i64 t277] 3]) (l2 := [blk g469 #[.int .i64 (wrap64 (a184 - 8)), .int .i64 (wrap64 (a184 - 1))] 3]) 3 (.int .i64 t472); have HS_ : Aside0 (Sep (fps []) w [blk g187 #[.int .i64 a183, .int .i64 a184, .int .i64 a185, .int .i64 a186] 32, blk g190 #[.int .i64 0, .int .i64 0, .int .i64 0, .int .i64 0, .int .i64 0, .int .i64 0, .int .i64 0, .int .i64 0] 38, blk g203 #[.int .i64 a183, .int .i64 a184] 3, blk g280 #[.int .i64 24, .int .i64 a185, .int .i64 t277] 3, blk g306 #[.int .i64 t303, .int .i64 (wrap64 (a184 - 8)), .int .i64 (wrap64 ((wrap64 (a184 - 8)) + 1)), .int .i64 t472, .int .i64 0, .int .i64 0, .int .i64 0, .int .i64 0] 38, blk g469 #[.int .i64 (wrap64 (a184 - 8)), .int .i64 (wrap64 (a184 - 1))] 3] w477) := ⟨by rw [hst]; exact hq0⟩; clear hq0; clear HS hst; have HS := HS_; clear HS_; have hc478 : w477.cell? ⟨g187, 0, none⟩ = some (.int .i64 a183) := blk_cellv (HS.out.at0) 0 rfl; have hc479 : w477.cell? ⟨g187, 1, none⟩ = some (.int .i64 a184) := blk_cellv (HS.out.at0) 1 rfl) | ((with_reducible refine gate_dst (N := 43) rfl ?_); refine slice_on (n := 2) ?hg (N := 43) ?hd (cs := #[.int .i64 a183, .int .i64 (wrap64 (a184 + 1))]) (t := 3) ?hr ?_; (case hd => rfl); (case hg => rfl); (case hr => first | (go_simp; done) | (go_simp; rfl)); intro g480 hg w481 hbox hb; clear hc478 hc479; have HS_ : Aside0 (Sep (fps []) w [blk g187 #[.int .i64 a183, .int .i64 a184, .int .i64 a185, .int .i64 a186] 32, blk g190 #[.int .i64 0, .int .i64 0, .int .i64 0, .int .i64 0, .int .i64 0, .int .i64 0, .int .i64 0, .int .i64 0] 38, blk g203 #[.int .i64 a183, .int .i64 a184] 3, blk g280 #[.int .i64 24, .int .i64 a185, .int .i64 t277] 3, blk g306 #[.int .i64 t303, .int .i64 (wrap64 (a184 - 8)), .int .i64 (wrap64 ((wrap64 (a184 - 8)) + 1)), .int .i64 t472, .int .i64 0, .int .i64 0, .int .i64 0, .int .i64 0] 38, blk g469 #[.int .i64 (wrap64 (a184 - 8)), .int .i64 (wrap64 (a184 - 1))] 3, blk g480 #[.int .i64 a183, .int .i64 (wrap64 (a184 + 1))] 3] w481) := ⟨HS.out.box hg hbox hb⟩; clear HS hg hbox hb; have HS := HS_; clear HS_))
      obtain ⟨t483, HA484, H⟩ := bind_some H
      refine (ratio_Mul.calls _ [a183, wrap64 (a184 + 1)] (some ⟨g480, 0, none⟩) 2 t483 _ ⟨C_of_blk (xs := [a183, wrap64 (a184 + 1)]) (HS.out.at6) (by simp)⟩ ⟨HS.out.begin (l := []) (rest := [blk g187 #[.int .i64 a183, .int .i64 a184, .int .i64 a185, .int .i64 a186] 32, blk g190 #[.int .i64 0, .int .i64 0, .int .i64 0, .int .i64 0, .int .i64 0, .int .i64 0, .int .i64 0, .int .i64 0] 38, blk g203 #[.int .i64 a183, .int .i64 a184] 3, blk g280 #[.int .i64 24, .int .i64 a185, .int .i64 t277] 3, blk g306 #[.int .i64 t303, .int .i64 (wrap64 (a184 - 8)), .int .i64 (wrap64 ((wrap64 (a184 - 8)) + 1)), .int .i64 t472, .int .i64 0, .int .i64 0, .int .i64 0, .int .i64 0] 38, blk g469 #[.int .i64 (wrap64 (a184 - 8)), .int .i64 (wrap64 (a184 - 1))] 3, blk g480 #[.int .i64 a183, .int .i64 (wrap64 (a184 + 1))] 3])⟩ HA484).mono ?_
      rintro e_ w485 ⟨rfl, hS⟩
      have HS_ : Aside0 (Sep (fps []) w [blk g187 #[.int .i64 a183, .int .i64 a184, .int .i64 a185, .int .i64 a186] 32, blk g190 #[.int .i64 0, .int .i64 0, .int .i64 0, .int .i64 0, .int .i64 0, .int .i64 0, .int .i64 0, .int .i64 0] 38, blk g203 #[.int .i64 a183, .int .i64 a184] 3, blk g280 #[.int .i64 24, .int .i64 a185, .int .i64 t277] 3, blk g306 #[.int .i64 t303, .int .i64 (wrap64 (a184 - 8)), .int .i64 (wrap64 ((wrap64 (a184 - 8)) + 1)), .int .i64 t472, .int .i64 0, .int .i64 0, .int .i64 0, .int .i64 0] 38, blk g469 #[.int .i64 (wrap64 (a184 - 8)), .int .i64 (wrap64 (a184 - 1))] 3, blk g480 #[.int .i64 a183, .int .i64 (wrap64 (a184 + 1))] 3] w485) := ⟨HS.out.call (l := []) (rest := [blk g187 #[.int .i64 a183, .int .i64 a184, .int .i64 a185, .int .i64 a186] 32, blk g190 #[.int .i64 0, .int .i64 0, .int .i64 0, .int .i64 0, .int .i64 0, .int .i64 0, .int .i64 0, .int .i64 0] 38, blk g203 #[.int .i64 a183, .int .i64 a184] 3, blk g280 #[.int .i64 24, .int .i64 a185, .int .i64 t277] 3, blk g306 #[.int .i64 t303, .int .i64 (wrap64 (a184 - 8)), .int .i64 (wrap64 ((wrap64 (a184 - 8)) + 1)), .int .i64 t472, .int .i64 0, .int .i64 0, .int .i64 0, .int .i64 0] 38, blk g469 #[.int .i64 (wrap64 (a184 - 8)), .int .i64 (wrap64 (a184 - 1))] 3, blk g480 #[.int .i64 a183, .int .i64 (wrap64 (a184 + 1))] 3]) hS⟩
      clear HS hS
      have HS := HS_
      clear HS_
      have hc486 : w485.cell? ⟨g306, 5, none⟩ = some (.int .i64 0) := blk_cellv (HS.out.at4) 5 rfl
      have hz487 : w485.frozen? ⟨g306, 5, none⟩ = false := blk_fz (HS.out.at4) 5
      go_wp2_with (first | ((with_reducible refine gate_store (t := 3) (p := 45) rfl ?_); refine store_event (w1 := (World.setCell w485 ⟨g306, 5, none⟩ (.int .i64 t483))) rfl (t := 3) (p := 45) rfl rfl ?hr ?_; (case hr => first | (go_simp; done) | (go_simp; rfl)); intro w488 hst; clear hc486 hz487; have hq0 : Sep (fps []) w [blk g187 #[.int .i64 a183, .int .i64 a184, .int .i64 a185, .int .i64 a186] 32, blk g190 #[.int .i64 0, .int .i64 0, .int .i64 0, .int .i64 0, .int .i64 0, .int .i64 0, .int .i64 0, .int .i64 0] 38, blk g203 #[.int .i64 a183, .int .i64 a184] 3, blk g280 #[.int .i64 24, .int .i64 a185, .int .i64 t277] 3, blk g306 #[.int .i64 t303, .int .i64 (wrap64 (a184 - 8)), .int .i64 (wrap64 ((wrap64 (a184 - 8)) + 1)), .int .i64 t472, .int .i64 0, .int .i64 t483, .int .i64 0, .int .i64 0] 38, blk g469 #[.int .i64 (wrap64 (a184 - 8)), .int .i64 (wrap64 (a184 - 1))] 3, blk g480 #[.int .i64 a183, .int .i64 (wrap64 (a184 + 1))] 3] (World.setCell w485 ⟨g306, 5, none⟩ (.int .i64 t483)) := (HS.out).set1 (l1 := [blk g187 #[.int .i64 a183, .int .i64 a184, .int .i64 a185, .int .i64 a186] 32, blk g190 #[.int .i64 0, .int .i64 0, .int .i64 0, .int .i64 0, .int .i64 0, .int .i64 0, .int .i64 0, .int .i64 0] 38, blk g203 #[.int .i64 a183, .int .i64 a184] 3, blk g280 #[.int .i64 24, .int .i64 a185, .int .i64 t277] 3]) (l2 := [blk g469 #[.int .i64 (wrap64 (a184 - 8)), .int .i64 (wrap64 (a184 - 1))] 3, blk g480 #[.int .i64 a183, .int .i64 (wrap64 (a184 + 1))] 3]) 5 (.int .i64 t483); have HS_ : Aside0 (Sep (fps []) w [blk g187 #[.int .i64 a183, .int .i64 a184, .int .i64 a185, .int .i64 a186] 32, blk g190 #[.int .i64 0, .int .i64 0, .int .i64 0, .int .i64 0, .int .i64 0, .int .i64 0, .int .i64 0, .int .i64 0] 38, blk g203 #[.int .i64 a183, .int .i64 a184] 3, blk g280 #[.int .i64 24, .int .i64 a185, .int .i64 t277] 3, blk g306 #[.int .i64 t303, .int .i64 (wrap64 (a184 - 8)), .int .i64 (wrap64 ((wrap64 (a184 - 8)) + 1)), .int .i64 t472, .int .i64 0, .int .i64 t483, .int .i64 0, .int .i64 0] 38, blk g469 #[.int .i64 (wrap64 (a184 - 8)), .int .i64 (wrap64 (a184 - 1))] 3, blk g480 #[.int .i64 a183, .int .i64 (wrap64 (a184 + 1))] 3] w488) := ⟨by rw [hst]; exact hq0⟩; clear hq0; clear HS hst; have HS := HS_; clear HS_; have hc489 : w488.cell? ⟨g306, 5, none⟩ = some (.int .i64 t483) := blk_cellv (HS.out.at4) 5 rfl) | ((with_reducible refine gate_dst (N := 48) rfl ?_); refine slice_on (n := 2) ?hg (N := 48) ?hd (cs := #[.int .i64 3, .int .i64 t483]) (t := 3) ?hr ?_; (case hd => rfl); (case hg => rfl); (case hr => first | (go_simp; done) | (go_simp; rfl)); intro g490 hg w491 hbox hb; clear hc489; have HS_ : Aside0 (Sep (fps []) w [blk g187 #[.int .i64 a183, .int .i64 a184, .int .i64 a185, .int .i64 a186] 32, blk g190 #[.int .i64 0, .int .i64 0, .int .i64 0, .int .i64 0, .int .i64 0, .int .i64 0, .int .i64 0, .int .i64 0] 38, blk g203 #[.int .i64 a183, .int .i64 a184] 3, blk g280 #[.int .i64 24, .int .i64 a185, .int .i64 t277] 3, blk g306 #[.int .i64 t303, .int .i64 (wrap64 (a184 - 8)), .int .i64 (wrap64 ((wrap64 (a184 - 8)) + 1)), .int .i64 t472, .int .i64 0, .int .i64 t483, .int .i64 0, .int .i64 0] 38, blk g469 #[.int .i64 (wrap64 (a184 - 8)), .int .i64 (wrap64 (a184 - 1))] 3, blk g480 #[.int .i64 a183, .int .i64 (wrap64 (a184 + 1))] 3, blk g490 #[.int .i64 3, .int .i64 t483] 3] w491) := ⟨HS.out.box hg hbox hb⟩; clear HS hg hbox hb; have HS := HS_; clear HS_))
      obtain ⟨t493, HA494, H⟩ := bind_some H
      refine (ratio_Mul.calls _ [3, t483] (some ⟨g490, 0, none⟩) 2 t493 _ ⟨C_of_blk (xs := [3, t483]) (HS.out.at7) (by simp)⟩ ⟨HS.out.begin (l := []) (rest := [blk g187 #[.int .i64 a183, .int .i64 a184, .int .i64 a185, .int .i64 a186] 32, blk g190 #[.int .i64 0, .int .i64 0, .int .i64 0, .int .i64 0, .int .i64 0, .int .i64 0, .int .i64 0, .int .i64 0] 38, blk g203 #[.int .i64 a183, .int .i64 a184] 3, blk g280 #[.int .i64 24, .int .i64 a185, .int .i64 t277] 3, blk g306 #[.int .i64 t303, .int .i64 (wrap64 (a184 - 8)), .int .i64 (wrap64 ((wrap64 (a184 - 8)) + 1)), .int .i64 t472, .int .i64 0, .int .i64 t483, .int .i64 0, .int .i64 0] 38, blk g469 #[.int .i64 (wrap64 (a184 - 8)), .int .i64 (wrap64 (a184 - 1))] 3, blk g480 #[.int .i64 a183, .int .i64 (wrap64 (a184 + 1))] 3, blk g490 #[.int .i64 3, .int .i64 t483] 3])⟩ HA494).mono ?_
      rintro e_ w495 ⟨rfl, hS⟩
      have HS_ : Aside0 (Sep (fps []) w [blk g187 #[.int .i64 a183, .int .i64 a184, .int .i64 a185, .int .i64 a186] 32, blk g190 #[.int .i64 0, .int .i64 0, .int .i64 0, .int .i64 0, .int .i64 0, .int .i64 0, .int .i64 0, .int .i64 0] 38, blk g203 #[.int .i64 a183, .int .i64 a184] 3, blk g280 #[.int .i64 24, .int .i64 a185, .int .i64 t277] 3, blk g306 #[.int .i64 t303, .int .i64 (wrap64 (a184 - 8)), .int .i64 (wrap64 ((wrap64 (a184 - 8)) + 1)), .int .i64 t472, .int .i64 0, .int .i64 t483, .int .i64 0, .int .i64 0] 38, blk g469 #[.int .i64 (wrap64 (a184 - 8)), .int .i64 (wrap64 (a184 - 1))] 3, blk g480 #[.int .i64 a183, .int .i64 (wrap64 (a184 + 1))] 3, blk g490 #[.int .i64 3, .int .i64 t483] 3] w495) := ⟨HS.out.call (l := []) (rest := [blk g187 #[.int .i64 a183, .int .i64 a184, .int .i64 a185, .int .i64 a186] 32, blk g190 #[.int .i64 0, .int .i64 0, .int .i64 0, .int .i64 0, .int .i64 0, .int .i64 0, .int .i64 0, .int .i64 0] 38, blk g203 #[.int .i64 a183, .int .i64 a184] 3, blk g280 #[.int .i64 24, .int .i64 a185, .int .i64 t277] 3, blk g306 #[.int .i64 t303, .int .i64 (wrap64 (a184 - 8)), .int .i64 (wrap64 ((wrap64 (a184 - 8)) + 1)), .int .i64 t472, .int .i64 0, .int .i64 t483, .int .i64 0, .int .i64 0] 38, blk g469 #[.int .i64 (wrap64 (a184 - 8)), .int .i64 (wrap64 (a184 - 1))] 3, blk g480 #[.int .i64 a183, .int .i64 (wrap64 (a184 + 1))] 3, blk g490 #[.int .i64 3, .int .i64 t483] 3]) hS⟩
      clear HS hS
      have HS := HS_
      clear HS_
      go_wp2_with (first | ((with_reducible refine gate_dst (N := 50) rfl ?_); refine slice_on (n := 2) ?hg (N := 50) ?hd (cs := #[.int .i64 t493, .int .i64 4]) (t := 3) ?hr ?_; (case hd => rfl); (case hg => rfl); (case hr => first | (go_simp; done) | (go_simp; rfl)); intro g496 hg w497 hbox hb; have HS_ : Aside0 (Sep (fps []) w [blk g187 #[.int .i64 a183, .int .i64 a184, .int .i64 a185, .int .i64 a186] 32, blk g190 #[.int .i64 0, .int .i64 0, .int .i64 0, .int .i64 0, .int .i64 0, .int .i64 0, .int .i64 0, .int .i64 0] 38, blk g203 #[.int .i64 a183, .int .i64 a184] 3, blk g280 #[.int .i64 24, .int .i64 a185, .int .i64 t277] 3, blk g306 #[.int .i64 t303, .int .i64 (wrap64 (a184 - 8)), .int .i64 (wrap64 ((wrap64 (a184 - 8)) + 1)), .int .i64 t472, .int .i64 0, .int .i64 t483, .int .i64 0, .int .i64 0] 38, blk g469 #[.int .i64 (wrap64 (a184 - 8)), .int .i64 (wrap64 (a184 - 1))] 3, blk g480 #[.int .i64 a183, .int .i64 (wrap64 (a184 + 1))] 3, blk g490 #[.int .i64 3, .int .i64 t483] 3, blk g496 #[.int .i64 t493, .int .i64 4] 3] w497) := ⟨HS.out.box hg hbox hb⟩; clear HS hg hbox hb; have HS := HS_; clear HS_))
      obtain ⟨t499, HA500, H⟩ := bind_some H
      refine (ratio_Add.calls _ [t493, 4] (some ⟨g496, 0, none⟩) 2 t499 _ ⟨C_of_blk (xs := [t493, 4]) (HS.out.at8) (by simp)⟩ ⟨HS.out.begin (l := []) (rest := [blk g187 #[.int .i64 a183, .int .i64 a184, .int .i64 a185, .int .i64 a186] 32, blk g190 #[.int .i64 0, .int .i64 0, .int .i64 0, .int .i64 0, .int .i64 0, .int .i64 0, .int .i64 0, .int .i64 0] 38, blk g203 #[.int .i64 a183, .int .i64 a184] 3, blk g280 #[.int .i64 24, .int .i64 a185, .int .i64 t277] 3, blk g306 #[.int .i64 t303, .int .i64 (wrap64 (a184 - 8)), .int .i64 (wrap64 ((wrap64 (a184 - 8)) + 1)), .int .i64 t472, .int .i64 0, .int .i64 t483, .int .i64 0, .int .i64 0] 38, blk g469 #[.int .i64 (wrap64 (a184 - 8)), .int .i64 (wrap64 (a184 - 1))] 3, blk g480 #[.int .i64 a183, .int .i64 (wrap64 (a184 + 1))] 3, blk g490 #[.int .i64 3, .int .i64 t483] 3, blk g496 #[.int .i64 t493, .int .i64 4] 3])⟩ HA500).mono ?_
      rintro e_ w501 ⟨rfl, hS⟩
      have HS_ : Aside0 (Sep (fps []) w [blk g187 #[.int .i64 a183, .int .i64 a184, .int .i64 a185, .int .i64 a186] 32, blk g190 #[.int .i64 0, .int .i64 0, .int .i64 0, .int .i64 0, .int .i64 0, .int .i64 0, .int .i64 0, .int .i64 0] 38, blk g203 #[.int .i64 a183, .int .i64 a184] 3, blk g280 #[.int .i64 24, .int .i64 a185, .int .i64 t277] 3, blk g306 #[.int .i64 t303, .int .i64 (wrap64 (a184 - 8)), .int .i64 (wrap64 ((wrap64 (a184 - 8)) + 1)), .int .i64 t472, .int .i64 0, .int .i64 t483, .int .i64 0, .int .i64 0] 38, blk g469 #[.int .i64 (wrap64 (a184 - 8)), .int .i64 (wrap64 (a184 - 1))] 3, blk g480 #[.int .i64 a183, .int .i64 (wrap64 (a184 + 1))] 3, blk g490 #[.int .i64 3, .int .i64 t483] 3, blk g496 #[.int .i64 t493, .int .i64 4] 3] w501) := ⟨HS.out.call (l := []) (rest := [blk g187 #[.int .i64 a183, .int .i64 a184, .int .i64 a185, .int .i64 a186] 32, blk g190 #[.int .i64 0, .int .i64 0, .int .i64 0, .int .i64 0, .int .i64 0, .int .i64 0, .int .i64 0, .int .i64 0] 38, blk g203 #[.int .i64 a183, .int .i64 a184] 3, blk g280 #[.int .i64 24, .int .i64 a185, .int .i64 t277] 3, blk g306 #[.int .i64 t303, .int .i64 (wrap64 (a184 - 8)), .int .i64 (wrap64 ((wrap64 (a184 - 8)) + 1)), .int .i64 t472, .int .i64 0, .int .i64 t483, .int .i64 0, .int .i64 0] 38, blk g469 #[.int .i64 (wrap64 (a184 - 8)), .int .i64 (wrap64 (a184 - 1))] 3, blk g480 #[.int .i64 a183, .int .i64 (wrap64 (a184 + 1))] 3, blk g490 #[.int .i64 3, .int .i64 t483] 3, blk g496 #[.int .i64 t493, .int .i64 4] 3]) hS⟩
      clear HS hS
      have HS := HS_
      clear HS_
      have hc502 : w501.cell? ⟨g306, 4, none⟩ = some (.int .i64 0) := blk_cellv (HS.out.at4) 4 rfl
      have hz503 : w501.frozen? ⟨g306, 4, none⟩ = false := blk_fz (HS.out.at4) 4
      go_wp2_with (first | ((with_reducible refine gate_store (t := 3) (p := 52) rfl ?_); refine store_event (w1 := (World.setCell w501 ⟨g306, 4, none⟩ (.int .i64 t499))) rfl (t := 3) (p := 52) rfl rfl ?hr ?_; (case hr => first | (go_simp; done) | (go_simp; rfl)); intro w504 hst; clear hc502 hz503; have hq0 : Sep (fps []) w [blk g187 #[.int .i64 a183, .int .i64 a184, .int .i64 a185, .int .i64 a186] 32, blk g190 #[.int .i64 0, .int .i64 0, .int .i64 0, .int .i64 0, .int .i64 0, .int .i64 0, .int .i64 0, .int .i64 0] 38, blk g203 #[.int .i64 a183, .int .i64 a184] 3, blk g280 #[.int .i64 24, .int .i64 a185, .int .i64 t277] 3, blk g306 #[.int .i64 t303, .int .i64 (wrap64 (a184 - 8)), .int .i64 (wrap64 ((wrap64 (a184 - 8)) + 1)), .int .i64 t472, .int .i64 t499, .int .i64 t483, .int .i64 0, .int .i64 0] 38, blk g469 #[.int .i64 (wrap64 (a184 - 8)), .int .i64 (wrap64 (a184 - 1))] 3, blk g480 #[.int .i64 a183, .int .i64 (wrap64 (a184 + 1))] 3, blk g490 #[.int .i64 3, .int .i64 t483] 3, blk g496 #[.int .i64 t493, .int .i64 4] 3] (World.setCell w501 ⟨g306, 4, none⟩ (.int .i64 t499)) := (HS.out).set1 (l1 := [blk g187 #[.int .i64 a183, .int .i64 a184, .int .i64 a185, .int .i64 a186] 32, blk g190 #[.int .i64 0, .int .i64 0, .int .i64 0, .int .i64 0, .int .i64 0, .int .i64 0, .int .i64 0, .int .i64 0] 38, blk g203 #[.int .i64 a183, .int .i64 a184] 3, blk g280 #[.int .i64 24, .int .i64 a185, .int .i64 t277] 3]) (l2 := [blk g469 #[.int .i64 (wrap64 (a184 - 8)), .int .i64 (wrap64 (a184 - 1))] 3, blk g480 #[.int .i64 a183, .int .i64 (wrap64 (a184 + 1))] 3, blk g490 #[.int .i64 3, .int .i64 t483] 3, blk g496 #[.int .i64 t493, .int .i64 4] 3]) 4 (.int .i64 t499); have HS_ : Aside0 (Sep (fps []) w [blk g187 #[.int .i64 a183, .int .i64 a184, .int .i64 a185, .int .i64 a186] 32, blk g190 #[.int .i64 0, .int .i64 0, .int .i64 0, .int .i64 0, .int .i64 0, .int .i64 0, .int .i64 0, .int .i64 0] 38, blk g203 #[.int .i64 a183, .int .i64 a184] 3, blk g280 #[.int .i64 24, .int .i64 a185, .int .i64 t277] 3, blk g306 #[.int .i64 t303, .int .i64 (wrap64 (a184 - 8)), .int .i64 (wrap64 ((wrap64 (a184 - 8)) + 1)), .int .i64 t472, .int .i64 t499, .int .i64 t483, .int .i64 0, .int .i64 0] 38, blk g469 #[.int .i64 (wrap64 (a184 - 8)), .int .i64 (wrap64 (a184 - 1))] 3, blk g480 #[.int .i64 a183, .int .i64 (wrap64 (a184 + 1))] 3, blk g490 #[.int .i64 3, .int .i64 t483] 3, blk g496 #[.int .i64 t493, .int .i64 4] 3] w504) := ⟨by rw [hst]; exact hq0⟩; clear hq0; clear HS hst; have HS := HS_; clear HS_))
      obtain ⟨t524, HA525, H⟩ := bind_some H
      obtain ⟨t530, HA531, H⟩ := bind_some H
      obtain ⟨t536, HA537, H⟩ := bind_some H
      obtain ⟨t542, HA543, H⟩ := bind_some H
      go_cut [] (fun wc => ∃ (g527 : Nat) (g533 : Nat) (g539 : Nat), Aside0 (Sep (fps []) w [blk g187 #[.int .i64 a183, .int .i64 a184, .int .i64 a185, .int .i64 a186] 32, blk g190 #[.int .i64 0, .int .i64 0, .int .i64 0, .int .i64 0, .int .i64 0, .int .i64 0, .int .i64 0, .int .i64 0] 38, blk g203 #[.int .i64 a183, .int .i64 a184] 3, blk g280 #[.int .i64 24, .int .i64 a185, .int .i64 t277] 3, blk g306 #[.int .i64 t303, .int .i64 (wrap64 (a184 - 8)), .int .i64 (wrap64 ((wrap64 (a184 - 8)) + 1)), .int .i64 t472, .int .i64 t499, .int .i64 t483, .int .i64 t542, .int .i64 0] 38, blk g469 #[.int .i64 (wrap64 (a184 - 8)), .int .i64 (wrap64 (a184 - 1))] 3, blk g480 #[.int .i64 a183, .int .i64 (wrap64 (a184 + 1))] 3, blk g490 #[.int .i64 3, .int .i64 t483] 3, blk g496 #[.int .i64 t493, .int .i64 4] 3, blk g527 #[.int .i64 2, .int .i64 t524] 3, blk g533 #[.int .i64 2, .int .i64 (wrap64 ((wrap64 (a184 - 8)) + 1))] 3, blk g539 #[.int .i64 t530, .int .i64 t536] 3] wc))
      case first =>
        go_wp2_with fail
        refine start_ (n := 15) (S := (fun w' => w'.cell? ⟨g306, 4, none⟩ = some (.int .i64 t499) ∧ w'.cell? ⟨g187, 3, none⟩ = some (.int .i64 a186) ∧ w'.cell? ⟨g306, 2, none⟩ = some (.int .i64 (wrap64 ((wrap64 (a184 - 8)) + 1))))) (ds := []) #[false, false, false, false, false, false, false, false, false, false, false, false, false, false, false] (by kernel_rfl) rfl rfl (⟨blk_cellv ((HS.out.drew).at4) 4 rfl, blk_cellv ((HS.out.drew).at0) 3 rfl, blk_cellv ((HS.out.drew).at4) 2 rfl⟩) (fun hHeld => ?_)
        have HS_ := Aside0.mk HS.out.drew
        clear HS
        generalize World.drew _ = w550 at HS_ hHeld ⊢
        have HS := HS_
        clear HS_
        refine pure_ (i := 0) (N := some 53) (v := ?_) (a' := ?_) #[true, false, false, false, false, false, false, false, false, false, false, false, false, false, false] rfl rfl (by kernel_rfl) (fun _ _ _ h => h) (Or.inl ⟨by rfl, ?_⟩) ?_ ?_
        rotate_left
        · intro w'
          go_simp
          with_reducible rfl
        rotate_left
        · simp only [Act.put, List.setIfInBounds_toArray, List.set_cons_zero, List.set_cons_succ, i64_w, i32_w]
          rfl
        refine pure_ (i := 2) (N := some 55) (v := ?_) (a' := ?_) #[true, false, true, false, false, false, false, false, false, false, false, false, false, false, false] rfl rfl (by kernel_rfl) (fun _ _ _ h => h) (Or.inl ⟨by rfl, ?_⟩) ?_ ?_
        rotate_left
        · intro w'
          go_simp
          with_reducible rfl
        rotate_left
        · simp only [Act.put, List.setIfInBounds_toArray, List.set_cons_zero, List.set_cons_succ, i64_w, i32_w]
          rfl
        refine pure_ (i := 7) (N := some 60) (v := ?_) (a' := ?_) #[true, false, true, false, false, false, false, true, false, false, false, false, false, false, false] rfl rfl (by kernel_rfl) (fun _ _ _ h => h) (Or.inl ⟨by rfl, ?_⟩) ?_ ?_
        rotate_left
        · intro w'
          go_simp
          with_reducible rfl
        rotate_left
        · simp only [Act.put, List.setIfInBounds_toArray, List.set_cons_zero, List.set_cons_succ, i64_w, i32_w]
          rfl
        refine take_ (i := 1) (N := some 54) (v := ?_) (a' := ?_) #[true, true, true, false, false, false, false, true, false, false, false, false, false, false, false] rfl rfl (by kernel_rfl) (fun _ _ _ h => h) (Or.inl ⟨by rfl, ?_⟩) hHeld ?_ ?_
        rotate_left
        · rintro w' hS'
          obtain ⟨s0, s1, s2⟩ := hS'
          go_simp
          with_reducible rfl
        rotate_left
        · simp only [Act.put, List.setIfInBounds_toArray, List.set_cons_zero, List.set_cons_succ, i64_w, i32_w]
          rfl
        refine take_ (i := 3) (N := some 56) (v := ?_) (a' := ?_) #[true, true, true, true, false, false, false, true, false, false, false, false, false, false, false] rfl rfl (by kernel_rfl) (fun _ _ _ h => h) (Or.inl ⟨by rfl, ?_⟩) hHeld ?_ ?_
        rotate_left
        · rintro w' hS'
          obtain ⟨s0, s1, s2⟩ := hS'
          go_simp
          with_reducible rfl
        rotate_left
        · simp only [Act.put, List.setIfInBounds_toArray, List.set_cons_zero, List.set_cons_succ, i64_w, i32_w]
          rfl
        refine take_ (i := 8) (N := some 61) (v := ?_) (a' := ?_) #[true, true, true, true, false, false, false, true, true, false, false, false, false, false, false] rfl rfl (by kernel_rfl) (fun _ _ _ h => h) (Or.inl ⟨by rfl, ?_⟩) hHeld ?_ ?_
        rotate_left
        · rintro w' hS'
          obtain ⟨s0, s1, s2⟩ := hS'
          go_simp
          with_reducible rfl
        rotate_left
        · simp only [Act.put, List.setIfInBounds_toArray, List.set_cons_zero, List.set_cons_succ, i64_w, i32_w]
          rfl
        refine two_ (i := 4) (j := 9) (Ni := some 57) (Nj := some 62) #[true, true, true, true, true, false, false, true, true, false, false, false, false, false, false] #[true, true, true, true, false, false, false, true, true, true, false, false, false, false, false] rfl rfl rfl rfl (by kernel_rfl) (by decide) (by decide) (fun K hK => ?_) (fun K hK => ?_)
        · refine goes_ Try.func45 (by kernel_rfl) rfl #[.int .i64 t499, .int .i64 a186] (by rfl) rfl rfl (by (try simp only [List.map_toArray, List.map_cons, List.map_nil]); first | done | rfl) ?_
          refine (ratio_Up.calls t499 a186 t524 _ ⟨HS.out.begin (l := []) (rest := [blk g187 #[.int .i64 a183, .int .i64 a184, .int .i64 a185, .int .i64 a186] 32, blk g190 #[.int .i64 0, .int .i64 0, .int .i64 0, .int .i64 0, .int .i64 0, .int .i64 0, .int .i64 0, .int .i64 0] 38, blk g203 #[.int .i64 a183, .int .i64 a184] 3, blk g280 #[.int .i64 24, .int .i64 a185, .int .i64 t277] 3, blk g306 #[.int .i64 t303, .int .i64 (wrap64 (a184 - 8)), .int .i64 (wrap64 ((wrap64 (a184 - 8)) + 1)), .int .i64 t472, .int .i64 t499, .int .i64 t483, .int .i64 0, .int .i64 0] 38, blk g469 #[.int .i64 (wrap64 (a184 - 8)), .int .i64 (wrap64 (a184 - 1))] 3, blk g480 #[.int .i64 a183, .int .i64 (wrap64 (a184 + 1))] 3, blk g490 #[.int .i64 3, .int .i64 t483] 3, blk g496 #[.int .i64 t493, .int .i64 4] 3])⟩ HA525).mono ?_
          rintro e_ w552 ⟨rfl, hS⟩
          have HS_ : Aside0 (Sep (fps []) w [blk g187 #[.int .i64 a183, .int .i64 a184, .int .i64 a185, .int .i64 a186] 32, blk g190 #[.int .i64 0, .int .i64 0, .int .i64 0, .int .i64 0, .int .i64 0, .int .i64 0, .int .i64 0, .int .i64 0] 38, blk g203 #[.int .i64 a183, .int .i64 a184] 3, blk g280 #[.int .i64 24, .int .i64 a185, .int .i64 t277] 3, blk g306 #[.int .i64 t303, .int .i64 (wrap64 (a184 - 8)), .int .i64 (wrap64 ((wrap64 (a184 - 8)) + 1)), .int .i64 t472, .int .i64 t499, .int .i64 t483, .int .i64 0, .int .i64 0] 38, blk g469 #[.int .i64 (wrap64 (a184 - 8)), .int .i64 (wrap64 (a184 - 1))] 3, blk g480 #[.int .i64 a183, .int .i64 (wrap64 (a184 + 1))] 3, blk g490 #[.int .i64 3, .int .i64 t483] 3, blk g496 #[.int .i64 t493, .int .i64 4] 3] w552) := ⟨HS.out.call (l := []) (rest := [blk g187 #[.int .i64 a183, .int .i64 a184, .int .i64 a185, .int .i64 a186] 32, blk g190 #[.int .i64 0, .int .i64 0, .int .i64 0, .int .i64 0, .int .i64 0, .int .i64 0, .int .i64 0, .int .i64 0] 38, blk g203 #[.int .i64 a183, .int .i64 a184] 3, blk g280 #[.int .i64 24, .int .i64 a185, .int .i64 t277] 3, blk g306 #[.int .i64 t303, .int .i64 (wrap64 (a184 - 8)), .int .i64 (wrap64 ((wrap64 (a184 - 8)) + 1)), .int .i64 t472, .int .i64 t499, .int .i64 t483, .int .i64 0, .int .i64 0] 38, blk g469 #[.int .i64 (wrap64 (a184 - 8)), .int .i64 (wrap64 (a184 - 1))] 3, blk g480 #[.int .i64 a183, .int .i64 (wrap64 (a184 + 1))] 3, blk g490 #[.int .i64 3, .int .i64 t483] 3, blk g496 #[.int .i64 t493, .int .i64 4] 3]) hS⟩
          clear HS hS
          have HS := HS_
          clear HS_
          refine ⟨_, rfl, ?_⟩
          refine hK.out _ _ (⟨blk_cellv (HS.out.at4) 4 rfl, blk_cellv (HS.out.at0) 3 rfl, blk_cellv (HS.out.at4) 2 rfl⟩) (fun hHeld => ?_)
          clear hK K
          refine norm_ (a' := ?_) ?_ ?_
          rotate_left
          · show Act.put _ (some 57) _ = _
            simp only [Act.put, List.setIfInBounds_toArray, List.set_cons_zero, List.set_cons_succ, i64_w, i32_w]
            rfl
          refine two_ (i := 5) (j := 9) (Ni := some 58) (Nj := some 62) #[true, true, true, true, true, true, false, true, true, false, false, false, false, false, false] #[true, true, true, true, true, false, false, true, true, true, false, false, false, false, false] rfl rfl rfl rfl (by kernel_rfl) (by decide) (by decide) (fun K hK => ?_) (fun K hK => ?_)
          · refine slice_step (n := 2) (by rfl) (N := 58) rfl (cs := #[.int .i64 2, .int .i64 t524]) (t := 3) ?hr ?_
            case hr => first | (go_simp; done) | (go_simp; rfl)
            intro g553 hg w554 hbox hb
            have HS_ : Aside0 (Sep (fps []) w [blk g187 #[.int .i64 a183, .int .i64 a184, .int .i64 a185, .int .i64 a186] 32, blk g190 #[.int .i64 0, .int .i64 0, .int .i64 0, .int .i64 0, .int .i64 0, .int .i64 0, .int .i64 0, .int .i64 0] 38, blk g203 #[.int .i64 a183, .int .i64 a184] 3, blk g280 #[.int .i64 24, .int .i64 a185, .int .i64 t277] 3, blk g306 #[.int .i64 t303, .int .i64 (wrap64 (a184 - 8)), .int .i64 (wrap64 ((wrap64 (a184 - 8)) + 1)), .int .i64 t472, .int .i64 t499, .int .i64 t483, .int .i64 0, .int .i64 0] 38, blk g469 #[.int .i64 (wrap64 (a184 - 8)), .int .i64 (wrap64 (a184 - 1))] 3, blk g480 #[.int .i64 a183, .int .i64 (wrap64 (a184 + 1))] 3, blk g490 #[.int .i64 3, .int .i64 t483] 3, blk g496 #[.int .i64 t493, .int .i64 4] 3, blk g553 #[.int .i64 2, .int .i64 t524] 3] w554) := ⟨HS.out.box hg hbox hb⟩
            clear HS hg hbox hb
            have HS := HS_
            clear HS_
            refine hK.out _ _ (⟨blk_cellv (HS.out.at4) 4 rfl, blk_cellv (HS.out.at0) 3 rfl, blk_cellv (HS.out.at4) 2 rfl⟩) (fun hHeld => ?_)
            clear hK K
            refine norm_ (a' := ?_) ?_ ?_
            rotate_left
            · show Act.put _ (some 58) _ = _
              simp only [Act.put, List.setIfInBounds_toArray, List.set_cons_zero, List.set_cons_succ, i64_w, i32_w]
              rfl
            refine two_ (i := 6) (j := 9) (Ni := some 59) (Nj := some 62) #[true, true, true, true, true, true, true, true, true, false, false, false, false, false, false] #[true, true, true, true, true, true, false, true, true, true, false, false, false, false, false] rfl rfl rfl rfl (by kernel_rfl) (by decide) (by decide) (fun K hK => ?_) (fun K hK => ?_)
            · refine goes_ Try.func42 (by kernel_rfl) rfl #[.slice (some ⟨g553, 0, none⟩) 2 2] (by rfl) rfl rfl (by (try simp only [List.map_toArray, List.map_cons, List.map_nil]); first | done | rfl) ?_
              refine (ratio_Mul.calls _ [2, t524] (some ⟨g553, 0, none⟩) 2 t530 _ ⟨C_of_blk (xs := [2, t524]) (HS.out.nth 9 rfl) (by simp)⟩ ⟨HS.out.begin (l := []) (rest := [blk g187 #[.int .i64 a183, .int .i64 a184, .int .i64 a185, .int .i64 a186] 32, blk g190 #[.int .i64 0, .int .i64 0, .int .i64 0, .int .i64 0, .int .i64 0, .int .i64 0, .int .i64 0, .int .i64 0] 38, blk g203 #[.int .i64 a183, .int .i64 a184] 3, blk g280 #[.int .i64 24, .int .i64 a185, .int .i64 t277] 3, blk g306 #[.int .i64 t303, .int .i64 (wrap64 (a184 - 8)), .int .i64 (wrap64 ((wrap64 (a184 - 8)) + 1)), .int .i64 t472, .int .i64 t499, .int .i64 t483, .int .i64 0, .int .i64 0] 38, blk g469 #[.int .i64 (wrap64 (a184 - 8)), .int .i64 (wrap64 (a184 - 1))] 3, blk g480 #[.int .i64 a183, .int .i64 (wrap64 (a184 + 1))] 3, blk g490 #[.int .i64 3, .int .i64 t483] 3, blk g496 #[.int .i64 t493, .int .i64 4] 3, blk g553 #[.int .i64 2, .int .i64 t524] 3])⟩ HA531).mono ?_
              rintro e_ w557 ⟨rfl, hS⟩
              have HS_ : Aside0 (Sep (fps []) w [blk g187 #[.int .i64 a183, .int .i64 a184, .int .i64 a185, .int .i64 a186] 32, blk g190 #[.int .i64 0, .int .i64 0, .int .i64 0, .int .i64 0, .int .i64 0, .int .i64 0, .int .i64 0, .int .i64 0] 38, blk g203 #[.int .i64 a183, .int .i64 a184] 3, blk g280 #[.int .i64 24, .int .i64 a185, .int .i64 t277] 3, blk g306 #[.int .i64 t303, .int .i64 (wrap64 (a184 - 8)), .int .i64 (wrap64 ((wrap64 (a184 - 8)) + 1)), .int .i64 t472, .int .i64 t499, .int .i64 t483, .int .i64 0, .int .i64 0] 38, blk g469 #[.int .i64 (wrap64 (a184 - 8)), .int .i64 (wrap64 (a184 - 1))] 3, blk g480 #[.int .i64 a183, .int .i64 (wrap64 (a184 + 1))] 3, blk g490 #[.int .i64 3, .int .i64 t483] 3, blk g496 #[.int .i64 t493, .int .i64 4] 3, blk g553 #[.int .i64 2, .int .i64 t524] 3] w557) := ⟨HS.out.call (l := []) (rest := [blk g187 #[.int .i64 a183, .int .i64 a184, .int .i64 a185, .int .i64 a186] 32, blk g190 #[.int .i64 0, .int .i64 0, .int .i64 0, .int .i64 0, .int .i64 0, .int .i64 0, .int .i64 0, .int .i64 0] 38, blk g203 #[.int .i64 a183, .int .i64 a184] 3, blk g280 #[.int .i64 24, .int .i64 a185, .int .i64 t277] 3, blk g306 #[.int .i64 t303, .int .i64 (wrap64 (a184 - 8)), .int .i64 (wrap64 ((wrap64 (a184 - 8)) + 1)), .int .i64 t472, .int .i64 t499, .int .i64 t483, .int .i64 0, .int .i64 0] 38, blk g469 #[.int .i64 (wrap64 (a184 - 8)), .int .i64 (wrap64 (a184 - 1))] 3, blk g480 #[.int .i64 a183, .int .i64 (wrap64 (a184 + 1))] 3, blk g490 #[.int .i64 3, .int .i64 t483] 3, blk g496 #[.int .i64 t493, .int .i64 4] 3, blk g553 #[.int .i64 2, .int .i64 t524] 3]) hS⟩
              clear HS hS
              have HS := HS_
              clear HS_
              refine ⟨_, rfl, ?_⟩
              refine hK.out _ _ (⟨blk_cellv (HS.out.at4) 4 rfl, blk_cellv (HS.out.at0) 3 rfl, blk_cellv (HS.out.at4) 2 rfl⟩) (fun hHeld => ?_)
              clear hK K
              refine norm_ (a' := ?_) ?_ ?_
              rotate_left
              · show Act.put _ (some 59) _ = _
                simp only [Act.put, List.setIfInBounds_toArray, List.set_cons_zero, List.set_cons_succ, i64_w, i32_w]
                rfl
              refine one_ (i := 9) (N := some 62) #[true, true, true, true, true, true, true, true, true, true, false, false, false, false, false] rfl rfl (by kernel_rfl) (by decide) (fun K hK => ?_)
              refine slice_step (n := 2) (by rfl) (N := 62) rfl (cs := #[.int .i64 2, .int .i64 (wrap64 ((wrap64 (a184 - 8)) + 1))]) (t := 3) ?hr ?_
              case hr => first | (go_simp; done) | (go_simp; rfl)
              intro g558 hg w559 hbox hb
              have HS_ : Aside0 (Sep (fps []) w [blk g187 #[.int .i64 a183, .int .i64 a184, .int .i64 a185, .int .i64 a186] 32, blk g190 #[.int .i64 0, .int .i64 0, .int .i64 0, .int .i64 0, .int .i64 0, .int .i64 0, .int .i64 0, .int .i64 0] 38, blk g203 #[.int .i64 a183, .int .i64 a184] 3, blk g280 #[.int .i64 24, .int .i64 a185, .int .i64 t277] 3, blk g306 #[.int .i64 t303, .int .i64 (wrap64 (a184 - 8)), .int .i64 (wrap64 ((wrap64 (a184 - 8)) + 1)), .int .i64 t472, .int .i64 t499, .int .i64 t483, .int .i64 0, .int .i64 0] 38, blk g469 #[.int .i64 (wrap64 (a184 - 8)), .int .i64 (wrap64 (a184 - 1))] 3, blk g480 #[.int .i64 a183, .int .i64 (wrap64 (a184 + 1))] 3, blk g490 #[.int .i64 3, .int .i64 t483] 3, blk g496 #[.int .i64 t493, .int .i64 4] 3, blk g553 #[.int .i64 2, .int .i64 t524] 3, blk g558 #[.int .i64 2, .int .i64 (wrap64 ((wrap64 (a184 - 8)) + 1))] 3] w559) := ⟨HS.out.box hg hbox hb⟩
              clear HS hg hbox hb
              have HS := HS_
              clear HS_
              refine hK.out _ _ (⟨blk_cellv (HS.out.at4) 4 rfl, blk_cellv (HS.out.at0) 3 rfl, blk_cellv (HS.out.at4) 2 rfl⟩) (fun hHeld => ?_)
              clear hK K
              refine norm_ (a' := ?_) ?_ ?_
              rotate_left
              · show Act.put _ (some 62) _ = _
                simp only [Act.put, List.setIfInBounds_toArray, List.set_cons_zero, List.set_cons_succ, i64_w, i32_w]
                rfl
              refine one_ (i := 10) (N := some 63) #[true, true, true, true, true, true, true, true, true, true, true, false, false, false, false] rfl rfl (by kernel_rfl) (by decide) (fun K hK => ?_)
              refine goes_ Try.func42 (by kernel_rfl) rfl #[.slice (some ⟨g558, 0, none⟩) 2 2] (by rfl) rfl rfl (by (try simp only [List.map_toArray, List.map_cons, List.map_nil]); first | done | rfl) ?_
              refine (ratio_Mul.calls _ [2, wrap64 ((wrap64 (a184 - 8)) + 1)] (some ⟨g558, 0, none⟩) 2 t536 _ ⟨C_of_blk (xs := [2, wrap64 ((wrap64 (a184 - 8)) + 1)]) (HS.out.nth 10 rfl) (by simp)⟩ ⟨HS.out.begin (l := []) (rest := [blk g187 #[.int .i64 a183, .int .i64 a184, .int .i64 a185, .int .i64 a186] 32, blk g190 #[.int .i64 0, .int .i64 0, .int .i64 0, .int .i64 0, .int .i64 0, .int .i64 0, .int .i64 0, .int .i64 0] 38, blk g203 #[.int .i64 a183, .int .i64 a184] 3, blk g280 #[.int .i64 24, .int .i64 a185, .int .i64 t277] 3, blk g306 #[.int .i64 t303, .int .i64 (wrap64 (a184 - 8)), .int .i64 (wrap64 ((wrap64 (a184 - 8)) + 1)), .int .i64 t472, .int .i64 t499, .int .i64 t483, .int .i64 0, .int .i64 0] 38, blk g469 #[.int .i64 (wrap64 (a184 - 8)), .int .i64 (wrap64 (a184 - 1))] 3, blk g480 #[.int .i64 a183, .int .i64 (wrap64 (a184 + 1))] 3, blk g490 #[.int .i64 3, .int .i64 t483] 3, blk g496 #[.int .i64 t493, .int .i64 4] 3, blk g553 #[.int .i64 2, .int .i64 t524] 3, blk g558 #[.int .i64 2, .int .i64 (wrap64 ((wrap64 (a184 - 8)) + 1))] 3])⟩ HA537).mono ?_
              rintro e_ w562 ⟨rfl, hS⟩
              have HS_ : Aside0 (Sep (fps []) w [blk g187 #[.int .i64 a183, .int .i64 a184, .int .i64 a185, .int .i64 a186] 32, blk g190 #[.int .i64 0, .int .i64 0, .int .i64 0, .int .i64 0, .int .i64 0, .int .i64 0, .int .i64 0, .int .i64 0] 38, blk g203 #[.int .i64 a183, .int .i64 a184] 3, blk g280 #[.int .i64 24, .int .i64 a185, .int .i64 t277] 3, blk g306 #[.int .i64 t303, .int .i64 (wrap64 (a184 - 8)), .int .i64 (wrap64 ((wrap64 (a184 - 8)) + 1)), .int .i64 t472, .int .i64 t499, .int .i64 t483, .int .i64 0, .int .i64 0] 38, blk g469 #[.int .i64 (wrap64 (a184 - 8)), .int .i64 (wrap64 (a184 - 1))] 3, blk g480 #[.int .i64 a183, .int .i64 (wrap64 (a184 + 1))] 3, blk g490 #[.int .i64 3, .int .i64 t483] 3, blk g496 #[.int .i64 t493, .int .i64 4] 3, blk g553 #[.int .i64 2, .int .i64 t524] 3, blk g558 #[.int .i64 2, .int .i64 (wrap64 ((wrap64 (a184 - 8)) + 1))] 3] w562) := ⟨HS.out.call (l := []) (rest := [blk g187 #[.int .i64 a183, .int .i64 a184, .int .i64 a185, .int .i64 a186] 32, blk g190 #[.int .i64 0, .int .i64 0, .int .i64 0, .int .i64 0, .int .i64 0, .int .i64 0, .int .i64 0, .int .i64 0] 38, blk g203 #[.int .i64 a183, .int .i64 a184] 3, blk g280 #[.int .i64 24, .int .i64 a185, .int .i64 t277] 3, blk g306 #[.int .i64 t303, .int .i64 (wrap64 (a184 - 8)), .int .i64 (wrap64 ((wrap64 (a184 - 8)) + 1)), .int .i64 t472, .int .i64 t499, .int .i64 t483, .int .i64 0, .int .i64 0] 38, blk g469 #[.int .i64 (wrap64 (a184 - 8)), .int .i64 (wrap64 (a184 - 1))] 3, blk g480 #[.int .i64 a183, .int .i64 (wrap64 (a184 + 1))] 3, blk g490 #[.int .i64 3, .int .i64 t483] 3, blk g496 #[.int .i64 t493, .int .i64 4] 3, blk g553 #[.int .i64 2, .int .i64 t524] 3, blk g558 #[.int .i64 2, .int .i64 (wrap64 ((wrap64 (a184 - 8)) + 1))] 3]) hS⟩
              clear HS hS
              have HS := HS_
              clear HS_
              refine ⟨_, rfl, ?_⟩
              refine hK.out _ _ (⟨blk_cellv (HS.out.at4) 4 rfl, blk_cellv (HS.out.at0) 3 rfl, blk_cellv (HS.out.at4) 2 rfl⟩) (fun hHeld => ?_)
              clear hK K
              refine norm_ (a' := ?_) ?_ ?_
              rotate_left
              · show Act.put _ (some 63) _ = _
                simp only [Act.put, List.setIfInBounds_toArray, List.set_cons_zero, List.set_cons_succ, i64_w, i32_w]
                rfl
              refine one_ (i := 11) (N := some 64) #[true, true, true, true, true, true, true, true, true, true, true, true, false, false, false] rfl rfl (by kernel_rfl) (by decide) (fun K hK => ?_)
              refine slice_step (n := 2) (by rfl) (N := 64) rfl (cs := #[.int .i64 t530, .int .i64 t536]) (t := 3) ?hr ?_
              case hr => first | (go_simp; done) | (go_simp; rfl)
              intro g563 hg w564 hbox hb
              have HS_ : Aside0 (Sep (fps []) w [blk g187 #[.int .i64 a183, .int .i64 a184, .int .i64 a185, .int .i64 a186] 32, blk g190 #[.int .i64 0, .int .i64 0, .int .i64 0, .int .i64 0, .int .i64 0, .int .i64 0, .int .i64 0, .int .i64 0] 38, blk g203 #[.int .i64 a183, .int .i64 a184] 3, blk g280 #[.int .i64 24, .int .i64 a185, .int .i64 t277] 3, blk g306 #[.int .i64 t303, .int .i64 (wrap64 (a184 - 8)), .int .i64 (wrap64 ((wrap64 (a184 - 8)) + 1)), .int .i64 t472, .int .i64 t499, .int .i64 t483, .int .i64 0, .int .i64 0] 38, blk g469 #[.int .i64 (wrap64 (a184 - 8)), .int .i64 (wrap64 (a184 - 1))] 3, blk g480 #[.int .i64 a183, .int .i64 (wrap64 (a184 + 1))] 3, blk g490 #[.int .i64 3, .int .i64 t483] 3, blk g496 #[.int .i64 t493, .int .i64 4] 3, blk g553 #[.int .i64 2, .int .i64 t524] 3, blk g558 #[.int .i64 2, .int .i64 (wrap64 ((wrap64 (a184 - 8)) + 1))] 3, blk g563 #[.int .i64 t530, .int .i64 t536] 3] w564) := ⟨HS.out.box hg hbox hb⟩
              clear HS hg hbox hb
              have HS := HS_
              clear HS_
              refine hK.out _ _ (⟨blk_cellv (HS.out.at4) 4 rfl, blk_cellv (HS.out.at0) 3 rfl, blk_cellv (HS.out.at4) 2 rfl⟩) (fun hHeld => ?_)
              clear hK K
              refine norm_ (a' := ?_) ?_ ?_
              rotate_left
              · show Act.put _ (some 64) _ = _
                simp only [Act.put, List.setIfInBounds_toArray, List.set_cons_zero, List.set_cons_succ, i64_w, i32_w]
                rfl
              refine one_ (i := 12) (N := some 65) #[true, true, true, true, true, true, true, true, true, true, true, true, true, false, false] rfl rfl (by kernel_rfl) (by decide) (fun K hK => ?_)
              refine goes_ Try.func41 (by kernel_rfl) rfl #[.slice (some ⟨g563, 0, none⟩) 2 2] (by rfl) rfl rfl (by (try simp only [List.map_toArray, List.map_cons, List.map_nil]); first | done | rfl) ?_
              refine (ratio_Add.calls _ [t530, t536] (some ⟨g563, 0, none⟩) 2 t542 _ ⟨C_of_blk (xs := [t530, t536]) (HS.out.nth 11 rfl) (by simp)⟩ ⟨HS.out.begin (l := []) (rest := [blk g187 #[.int .i64 a183, .int .i64 a184, .int .i64 a185, .int .i64 a186] 32, blk g190 #[.int .i64 0, .int .i64 0, .int .i64 0, .int .i64 0, .int .i64 0, .int .i64 0, .int .i64 0, .int .i64 0] 38, blk g203 #[.int .i64 a183, .int .i64 a184] 3, blk g280 #[.int .i64 24, .int .i64 a185, .int .i64 t277] 3, blk g306 #[.int .i64 t303, .int .i64 (wrap64 (a184 - 8)), .int .i64 (wrap64 ((wrap64 (a184 - 8)) + 1)), .int .i64 t472, .int .i64 t499, .int .i64 t483, .int .i64 0, .int .i64 0] 38, blk g469 #[.int .i64 (wrap64 (a184 - 8)), .int .i64 (wrap64 (a184 - 1))] 3, blk g480 #[.int .i64 a183, .int .i64 (wrap64 (a184 + 1))] 3, blk g490 #[.int .i64 3, .int .i64 t483] 3, blk g496 #[.int .i64 t493, .int .i64 4] 3, blk g553 #[.int .i64 2, .int .i64 t524] 3, blk g558 #[.int .i64 2, .int .i64 (wrap64 ((wrap64 (a184 - 8)) + 1))] 3, blk g563 #[.int .i64 t530, .int .i64 t536] 3])⟩ HA543).mono ?_
              rintro e_ w567 ⟨rfl, hS⟩
              have HS_ : Aside0 (Sep (fps []) w [blk g187 #[.int .i64 a183, .int .i64 a184, .int .i64 a185, .int .i64 a186] 32, blk g190 #[.int .i64 0, .int .i64 0, .int .i64 0, .int .i64 0, .int .i64 0, .int .i64 0, .int .i64 0, .int .i64 0] 38, blk g203 #[.int .i64 a183, .int .i64 a184] 3, blk g280 #[.int .i64 24, .int .i64 a185, .int .i64 t277] 3, blk g306 #[.int .i64 t303, .int .i64 (wrap64 (a184 - 8)), .int .i64 (wrap64 ((wrap64 (a184 - 8)) + 1)), .int .i64 t472, .int .i64 t499, .int .i64 t483, .int .i64 0, .int .i64 0] 38, blk g469 #[.int .i64 (wrap64 (a184 - 8)), .int .i64 (wrap64 (a184 - 1))] 3, blk g480 #[.int .i64 a183, .int .i64 (wrap64 (a184 + 1))] 3, blk g490 #[.int .i64 3, .int .i64 t483] 3, blk g496 #[.int .i64 t493, .int .i64 4] 3, blk g553 #[.int .i64 2, .int .i64 t524] 3, blk g558 #[.int .i64 2, .int .i64 (wrap64 ((wrap64 (a184 - 8)) + 1))] 3, blk g563 #[.int .i64 t530, .int .i64 t536] 3] w567) := ⟨HS.out.call (l := []) (rest := [blk g187 #[.int .i64 a183, .int .i64 a184, .int .i64 a185, .int .i64 a186] 32, blk g190 #[.int .i64 0, .int .i64 0, .int .i64 0, .int .i64 0, .int .i64 0, .int .i64 0, .int .i64 0, .int .i64 0] 38, blk g203 #[.int .i64 a183, .int .i64 a184] 3, blk g280 #[.int .i64 24, .int .i64 a185, .int .i64 t277] 3, blk g306 #[.int .i64 t303, .int .i64 (wrap64 (a184 - 8)), .int .i64 (wrap64 ((wrap64 (a184 - 8)) + 1)), .int .i64 t472, .int .i64 t499, .int .i64 t483, .int .i64 0, .int .i64 0] 38, blk g469 #[.int .i64 (wrap64 (a184 - 8)), .int .i64 (wrap64 (a184 - 1))] 3, blk g480 #[.int .i64 a183, .int .i64 (wrap64 (a184 + 1))] 3, blk g490 #[.int .i64 3, .int .i64 t483] 3, blk g496 #[.int .i64 t493, .int .i64 4] 3, blk g553 #[.int .i64 2, .int .i64 t524] 3, blk g558 #[.int .i64 2, .int .i64 (wrap64 ((wrap64 (a184 - 8)) + 1))] 3, blk g563 #[.int .i64 t530, .int .i64 t536] 3]) hS⟩
              clear HS hS
              have HS := HS_
              clear HS_
              refine ⟨_, rfl, ?_⟩
              refine hK.out _ _ (⟨blk_cellv (HS.out.at4) 4 rfl, blk_cellv (HS.out.at0) 3 rfl, blk_cellv (HS.out.at4) 2 rfl⟩) (fun hHeld => ?_)
              clear hK K
              refine norm_ (a' := ?_) ?_ ?_
              rotate_left
              · show Act.put _ (some 65) _ = _
                simp only [Act.put, List.setIfInBounds_toArray, List.set_cons_zero, List.set_cons_succ, i64_w, i32_w]
                rfl
              refine pure_ (i := 13) (N := some 66) (v := ?_) (a' := ?_) #[true, true, true, true, true, true, true, true, true, true, true, true, true, true, false] rfl rfl (by kernel_rfl) (fun _ _ _ h => h) (Or.inl ⟨by rfl, ?_⟩) ?_ ?_
              rotate_left
              · intro w'
                go_simp
                with_reducible rfl
              rotate_left
              · simp only [Act.put, List.setIfInBounds_toArray, List.set_cons_zero, List.set_cons_succ, i64_w, i32_w]
                rfl
              refine one_ (i := 14) (N := none) #[true, true, true, true, true, true, true, true, true, true, true, true, true, true, true] rfl rfl (by kernel_rfl) (by decide) (fun K hK => ?_)
              have hc569 := blk_cellv (v := .int .i64 0) (HS.out.at4) 6 rfl
              have hz570 := blk_fz (HS.out.at4) 6
              refine store_step (w1 := (World.setCell w567 ⟨g306, 6, none⟩ (.int .i64 t542))) (by rfl) rfl ?hr ?_
              case hr => first | (go_simp; done) | (go_simp; rfl)
              clear hc569 hz570
              intro w568 hst
              have hq0 : Sep (fps []) w [blk g187 #[.int .i64 a183, .int .i64 a184, .int .i64 a185, .int .i64 a186] 32, blk g190 #[.int .i64 0, .int .i64 0, .int .i64 0, .int .i64 0, .int .i64 0, .int .i64 0, .int .i64 0, .int .i64 0] 38, blk g203 #[.int .i64 a183, .int .i64 a184] 3, blk g280 #[.int .i64 24, .int .i64 a185, .int .i64 t277] 3, blk g306 #[.int .i64 t303, .int .i64 (wrap64 (a184 - 8)), .int .i64 (wrap64 ((wrap64 (a184 - 8)) + 1)), .int .i64 t472, .int .i64 t499, .int .i64 t483, .int .i64 t542, .int .i64 0] 38, blk g469 #[.int .i64 (wrap64 (a184 - 8)), .int .i64 (wrap64 (a184 - 1))] 3, blk g480 #[.int .i64 a183, .int .i64 (wrap64 (a184 + 1))] 3, blk g490 #[.int .i64 3, .int .i64 t483] 3, blk g496 #[.int .i64 t493, .int .i64 4] 3, blk g553 #[.int .i64 2, .int .i64 t524] 3, blk g558 #[.int .i64 2, .int .i64 (wrap64 ((wrap64 (a184 - 8)) + 1))] 3, blk g563 #[.int .i64 t530, .int .i64 t536] 3] (World.setCell w567 ⟨g306, 6, none⟩ (.int .i64 t542)) := (HS.out).set1 (l1 := [blk g187 #[.int .i64 a183, .int .i64 a184, .int .i64 a185, .int .i64 a186] 32, blk g190 #[.int .i64 0, .int .i64 0, .int .i64 0, .int .i64 0, .int .i64 0, .int .i64 0, .int .i64 0, .int .i64 0] 38, blk g203 #[.int .i64 a183, .int .i64 a184] 3, blk g280 #[.int .i64 24, .int .i64 a185, .int .i64 t277] 3]) (l2 := [blk g469 #[.int .i64 (wrap64 (a184 - 8)), .int .i64 (wrap64 (a184 - 1))] 3, blk g480 #[.int .i64 a183, .int .i64 (wrap64 (a184 + 1))] 3, blk g490 #[.int .i64 3, .int .i64 t483] 3, blk g496 #[.int .i64 t493, .int .i64 4] 3, blk g553 #[.int .i64 2, .int .i64 t524] 3, blk g558 #[.int .i64 2, .int .i64 (wrap64 ((wrap64 (a184 - 8)) + 1))] 3, blk g563 #[.int .i64 t530, .int .i64 t536] 3]) 6 (.int .i64 t542)
              have HS_ : Aside0 (Sep (fps []) w [blk g187 #[.int .i64 a183, .int .i64 a184, .int .i64 a185, .int .i64 a186] 32, blk g190 #[.int .i64 0, .int .i64 0, .int .i64 0, .int .i64 0, .int .i64 0, .int .i64 0, .int .i64 0, .int .i64 0] 38, blk g203 #[.int .i64 a183, .int .i64 a184] 3, blk g280 #[.int .i64 24, .int .i64 a185, .int .i64 t277] 3, blk g306 #[.int .i64 t303, .int .i64 (wrap64 (a184 - 8)), .int .i64 (wrap64 ((wrap64 (a184 - 8)) + 1)), .int .i64 t472, .int .i64 t499, .int .i64 t483, .int .i64 t542, .int .i64 0] 38, blk g469 #[.int .i64 (wrap64 (a184 - 8)), .int .i64 (wrap64 (a184 - 1))] 3, blk g480 #[.int .i64 a183, .int .i64 (wrap64 (a184 + 1))] 3, blk g490 #[.int .i64 3, .int .i64 t483] 3, blk g496 #[.int .i64 t493, .int .i64 4] 3, blk g553 #[.int .i64 2, .int .i64 t524] 3, blk g558 #[.int .i64 2, .int .i64 (wrap64 ((wrap64 (a184 - 8)) + 1))] 3, blk g563 #[.int .i64 t530, .int .i64 t536] 3] w568) := ⟨by rw [hst]; exact hq0⟩
              clear hq0
              clear HS hst
              have HS := HS_
              clear HS_
              refine hK.out _ _ (⟨blk_cellv (HS.out.at4) 4 rfl, blk_cellv (HS.out.at0) 3 rfl, blk_cellv (HS.out.at4) 2 rfl⟩) (fun hHeld => ?_)
              clear hK K
              refine done_ (by kernel_rfl) ?_
              go_wp2_with fail
              go_meet
              case rel => exact ⟨g553, g558, g563, ⟨((((((((((((HS.out).front 11 (by simp)).front 11 (by simp)).front 11 (by simp)).front 11 (by simp)).front 11 (by simp)).front 11 (by simp)).front 11 (by simp)).front 11 (by simp)).front 11 (by simp)).front 11 (by simp)).front 11 (by simp)).front 11 (by simp)⟩⟩
            · refine slice_step (n := 2) (by rfl) (N := 62) rfl (cs := #[.int .i64 2, .int .i64 (wrap64 ((wrap64 (a184 - 8)) + 1))]) (t := 3) ?hr ?_
              case hr => first | (go_simp; done) | (go_simp; rfl)
              intro g571 hg w572 hbox hb
              have HS_ : Aside0 (Sep (fps []) w [blk g187 #[.int .i64 a183, .int .i64 a184, .int .i64 a185, .int .i64 a186] 32, blk g190 #[.int .i64 0, .int .i64 0, .int .i64 0, .int .i64 0, .int .i64 0, .int .i64 0, .int .i64 0, .int .i64 0] 38, blk g203 #[.int .i64 a183, .int .i64 a184] 3, blk g280 #[.int .i64 24, .int .i64 a185, .int .i64 t277] 3, blk g306 #[.int .i64 t303, .int .i64 (wrap64 (a184 - 8)), .int .i64 (wrap64 ((wrap64 (a184 - 8)) + 1)), .int .i64 t472, .int .i64 t499, .int .i64 t483, .int .i64 0, .int .i64 0] 38, blk g469 #[.int .i64 (wrap64 (a184 - 8)), .int .i64 (wrap64 (a184 - 1))] 3, blk g480 #[.int .i64 a183, .int .i64 (wrap64 (a184 + 1))] 3, blk g490 #[.int .i64 3, .int .i64 t483] 3, blk g496 #[.int .i64 t493, .int .i64 4] 3, blk g553 #[.int .i64 2, .int .i64 t524] 3, blk g571 #[.int .i64 2, .int .i64 (wrap64 ((wrap64 (a184 - 8)) + 1))] 3] w572) := ⟨HS.out.box hg hbox hb⟩
              clear HS hg hbox hb
              have HS := HS_
              clear HS_
              refine hK.out _ _ (⟨blk_cellv (HS.out.at4) 4 rfl, blk_cellv (HS.out.at0) 3 rfl, blk_cellv (HS.out.at4) 2 rfl⟩) (fun hHeld => ?_)
              clear hK K
              refine norm_ (a' := ?_) ?_ ?_
              rotate_left
              · show Act.put _ (some 62) _ = _
                simp only [Act.put, List.setIfInBounds_toArray, List.set_cons_zero, List.set_cons_succ, i64_w, i32_w]
                rfl
              refine one_ (i := 6) (N := some 59) #[true, true, true, true, true, true, true, true, true, true, false, false, false, false, false] rfl rfl (by kernel_rfl) (by decide) (fun K hK => ?_)
              refine goes_ Try.func42 (by kernel_rfl) rfl #[.slice (some ⟨g553, 0, none⟩) 2 2] (by rfl) rfl rfl (by (try simp only [List.map_toArray, List.map_cons, List.map_nil]); first | done | rfl) ?_
              refine (ratio_Mul.calls _ [2, t524] (some ⟨g553, 0, none⟩) 2 t530 _ ⟨C_of_blk (xs := [2, t524]) (HS.out.nth 9 rfl) (by simp)⟩ ⟨HS.out.begin (l := []) (rest := [blk g187 #[.int .i64 a183, .int .i64 a184, .int .i64 a185, .int .i64 a186] 32, blk g190 #[.int .i64 0, .int .i64 0, .int .i64 0, .int .i64 0, .int .i64 0, .int .i64 0, .int .i64 0, .int .i64 0] 38, blk g203 #[.int .i64 a183, .int .i64 a184] 3, blk g280 #[.int .i64 24, .int .i64 a185, .int .i64 t277] 3, blk g306 #[.int .i64 t303, .int .i64 (wrap64 (a184 - 8)), .int .i64 (wrap64 ((wrap64 (a184 - 8)) + 1)), .int .i64 t472, .int .i64 t499, .int .i64 t483, .int .i64 0, .int .i64 0] 38, blk g469 #[.int .i64 (wrap64 (a184 - 8)), .int .i64 (wrap64 (a184 - 1))] 3, blk g480 #[.int .i64 a183, .int .i64 (wrap64 (a184 + 1))] 3, blk g490 #[.int .i64 3, .int .i64 t483] 3, blk g496 #[.int .i64 t493, .int .i64 4] 3, blk g553 #[.int .i64 2, .int .i64 t524] 3, blk g571 #[.int .i64 2, .int .i64 (wrap64 ((wrap64 (a184 - 8)) + 1))] 3])⟩ HA531).mono ?_
              rintro e_ w575 ⟨rfl, hS⟩
              have HS_ : Aside0 (Sep (fps []) w [blk g187 #[.int .i64 a183, .int .i64 a184, .int .i64 a185, .int .i64 a186] 32, blk g190 #[.int .i64 0, .int .i64 0, .int .i64 0, .int .i64 0, .int .i64 0, .int .i64 0, .int .i64 0, .int .i64 0] 38, blk g203 #[.int .i64 a183, .int .i64 a184] 3, blk g280 #[.int .i64 24, .int .i64 a185, .int .i64 t277] 3, blk g306 #[.int .i64 t303, .int .i64 (wrap64 (a184 - 8)), .int .i64 (wrap64 ((wrap64 (a184 - 8)) + 1)), .int .i64 t472, .int .i64 t499, .int .i64 t483, .int .i64 0, .int .i64 0] 38, blk g469 #[.int .i64 (wrap64 (a184 - 8)), .int .i64 (wrap64 (a184 - 1))] 3, blk g480 #[.int .i64 a183, .int .i64 (wrap64 (a184 + 1))] 3, blk g490 #[.int .i64 3, .int .i64 t483] 3, blk g496 #[.int .i64 t493, .int .i64 4] 3, blk g553 #[.int .i64 2, .int .i64 t524] 3, blk g571 #[.int .i64 2, .int .i64 (wrap64 ((wrap64 (a184 - 8)) + 1))] 3] w575) := ⟨HS.out.call (l := []) (rest := [blk g187 #[.int .i64 a183, .int .i64 a184, .int .i64 a185, .int .i64 a186] 32, blk g190 #[.int .i64 0, .int .i64 0, .int .i64 0, .int .i64 0, .int .i64 0, .int .i64 0, .int .i64 0, .int .i64 0] 38, blk g203 #[.int .i64 a183, .int .i64 a184] 3, blk g280 #[.int .i64 24, .int .i64 a185, .int .i64 t277] 3, blk g306 #[.int .i64 t303, .int .i64 (wrap64 (a184 - 8)), .int .i64 (wrap64 ((wrap64 (a184 - 8)) + 1)), .int .i64 t472, .int .i64 t499, .int .i64 t483, .int .i64 0, .int .i64 0] 38, blk g469 #[.int .i64 (wrap64 (a184 - 8)), .int .i64 (wrap64 (a184 - 1))] 3, blk g480 #[.int .i64 a183, .int .i64 (wrap64 (a184 + 1))] 3, blk g490 #[.int .i64 3, .int .i64 t483] 3, blk g496 #[.int .i64 t493, .int .i64 4] 3, blk g553 #[.int .i64 2, .int .i64 t524] 3, blk g571 #[.int .i64 2, .int .i64 (wrap64 ((wrap64 (a184 - 8)) + 1))] 3]) hS⟩
              clear HS hS
              have HS := HS_
              clear HS_
              refine ⟨_, rfl, ?_⟩
              refine hK.out _ _ (⟨blk_cellv (HS.out.at4) 4 rfl, blk_cellv (HS.out.at0) 3 rfl, blk_cellv (HS.out.at4) 2 rfl⟩) (fun hHeld => ?_)
              clear hK K
              refine norm_ (a' := ?_) ?_ ?_
              rotate_left
              · show Act.put _ (some 59) _ = _
                simp only [Act.put, List.setIfInBounds_toArray, List.set_cons_zero, List.set_cons_succ, i64_w, i32_w]
                rfl
              refine one_ (i := 10) (N := some 63) #[true, true, true, true, true, true, true, true, true, true, true, false, false, false, false] rfl rfl (by kernel_rfl) (by decide) (fun K hK => ?_)
              refine goes_ Try.func42 (by kernel_rfl) rfl #[.slice (some ⟨g571, 0, none⟩) 2 2] (by rfl) rfl rfl (by (try simp only [List.map_toArray, List.map_cons, List.map_nil]); first | done | rfl) ?_
              refine (ratio_Mul.calls _ [2, wrap64 ((wrap64 (a184 - 8)) + 1)] (some ⟨g571, 0, none⟩) 2 t536 _ ⟨C_of_blk (xs := [2, wrap64 ((wrap64 (a184 - 8)) + 1)]) (HS.out.nth 10 rfl) (by simp)⟩ ⟨HS.out.begin (l := []) (rest := [blk g187 #[.int .i64 a183, .int .i64 a184, .int .i64 a185, .int .i64 a186] 32, blk g190 #[.int .i64 0, .int .i64 0, .int .i64 0, .int .i64 0, .int .i64 0, .int .i64 0, .int .i64 0, .int .i64 0] 38, blk g203 #[.int .i64 a183, .int .i64 a184] 3, blk g280 #[.int .i64 24, .int .i64 a185, .int .i64 t277] 3, blk g306 #[.int .i64 t303, .int .i64 (wrap64 (a184 - 8)), .int .i64 (wrap64 ((wrap64 (a184 - 8)) + 1)), .int .i64 t472, .int .i64 t499, .int .i64 t483, .int .i64 0, .int .i64 0] 38, blk g469 #[.int .i64 (wrap64 (a184 - 8)), .int .i64 (wrap64 (a184 - 1))] 3, blk g480 #[.int .i64 a183, .int .i64 (wrap64 (a184 + 1))] 3, blk g490 #[.int .i64 3, .int .i64 t483] 3, blk g496 #[.int .i64 t493, .int .i64 4] 3, blk g553 #[.int .i64 2, .int .i64 t524] 3, blk g571 #[.int .i64 2, .int .i64 (wrap64 ((wrap64 (a184 - 8)) + 1))] 3])⟩ HA537).mono ?_
              rintro e_ w577 ⟨rfl, hS⟩
              have HS_ : Aside0 (Sep (fps []) w [blk g187 #[.int .i64 a183, .int .i64 a184, .int .i64 a185, .int .i64 a186] 32, blk g190 #[.int .i64 0, .int .i64 0, .int .i64 0, .int .i64 0, .int .i64 0, .int .i64 0, .int .i64 0, .int .i64 0] 38, blk g203 #[.int .i64 a183, .int .i64 a184] 3, blk g280 #[.int .i64 24, .int .i64 a185, .int .i64 t277] 3, blk g306 #[.int .i64 t303, .int .i64 (wrap64 (a184 - 8)), .int .i64 (wrap64 ((wrap64 (a184 - 8)) + 1)), .int .i64 t472, .int .i64 t499, .int .i64 t483, .int .i64 0, .int .i64 0] 38, blk g469 #[.int .i64 (wrap64 (a184 - 8)), .int .i64 (wrap64 (a184 - 1))] 3, blk g480 #[.int .i64 a183, .int .i64 (wrap64 (a184 + 1))] 3, blk g490 #[.int .i64 3, .int .i64 t483] 3, blk g496 #[.int .i64 t493, .int .i64 4] 3, blk g553 #[.int .i64 2, .int .i64 t524] 3, blk g571 #[.int .i64 2, .int .i64 (wrap64 ((wrap64 (a184 - 8)) + 1))] 3] w577) := ⟨HS.out.call (l := []) (rest := [blk g187 #[.int .i64 a183, .int .i64 a184, .int .i64 a185, .int .i64 a186] 32, blk g190 #[.int .i64 0, .int .i64 0, .int .i64 0, .int .i64 0, .int .i64 0, .int .i64 0, .int .i64 0, .int .i64 0] 38, blk g203 #[.int .i64 a183, .int .i64 a184] 3, blk g280 #[.int .i64 24, .int .i64 a185, .int .i64 t277] 3, blk g306 #[.int .i64 t303, .int .i64 (wrap64 (a184 - 8)), .int .i64 (wrap64 ((wrap64 (a184 - 8)) + 1)), .int .i64 t472, .int .i64 t499, .int .i64 t483, .int .i64 0, .int .i64 0] 38, blk g469 #[.int .i64 (wrap64 (a184 - 8)), .int .i64 (wrap64 (a184 - 1))] 3, blk g480 #[.int .i64 a183, .int .i64 (wrap64 (a184 + 1))] 3, blk g490 #[.int .i64 3, .int .i64 t483] 3, blk g496 #[.int .i64 t493, .int .i64 4] 3, blk g553 #[.int .i64 2, .int .i64 t524] 3, blk g571 #[.int .i64 2, .int .i64 (wrap64 ((wrap64 (a184 - 8)) + 1))] 3]) hS⟩
              clear HS hS
              have HS := HS_
              clear HS_
              refine ⟨_, rfl, ?_⟩
              refine hK.out _ _ (⟨blk_cellv (HS.out.at4) 4 rfl, blk_cellv (HS.out.at0) 3 rfl, blk_cellv (HS.out.at4) 2 rfl⟩) (fun hHeld => ?_)
              clear hK K
              refine norm_ (a' := ?_) ?_ ?_
              rotate_left
              · show Act.put _ (some 63) _ = _
                simp only [Act.put, List.setIfInBounds_toArray, List.set_cons_zero, List.set_cons_succ, i64_w, i32_w]
                rfl
              refine one_ (i := 11) (N := some 64) #[true, true, true, true, true, true, true, true, true, true, true, true, false, false, false] rfl rfl (by kernel_rfl) (by decide) (fun K hK => ?_)
              refine slice_step (n := 2) (by rfl) (N := 64) rfl (cs := #[.int .i64 t530, .int .i64 t536]) (t := 3) ?hr ?_
              case hr => first | (go_simp; done) | (go_simp; rfl)
              intro g578 hg w579 hbox hb
              have HS_ : Aside0 (Sep (fps []) w [blk g187 #[.int .i64 a183, .int .i64 a184, .int .i64 a185, .int .i64 a186] 32, blk g190 #[.int .i64 0, .int .i64 0, .int .i64 0, .int .i64 0, .int .i64 0, .int .i64 0, .int .i64 0, .int .i64 0] 38, blk g203 #[.int .i64 a183, .int .i64 a184] 3, blk g280 #[.int .i64 24, .int .i64 a185, .int .i64 t277] 3, blk g306 #[.int .i64 t303, .int .i64 (wrap64 (a184 - 8)), .int .i64 (wrap64 ((wrap64 (a184 - 8)) + 1)), .int .i64 t472, .int .i64 t499, .int .i64 t483, .int .i64 0, .int .i64 0] 38, blk g469 #[.int .i64 (wrap64 (a184 - 8)), .int .i64 (wrap64 (a184 - 1))] 3, blk g480 #[.int .i64 a183, .int .i64 (wrap64 (a184 + 1))] 3, blk g490 #[.int .i64 3, .int .i64 t483] 3, blk g496 #[.int .i64 t493, .int .i64 4] 3, blk g553 #[.int .i64 2, .int .i64 t524] 3, blk g571 #[.int .i64 2, .int .i64 (wrap64 ((wrap64 (a184 - 8)) + 1))] 3, blk g578 #[.int .i64 t530, .int .i64 t536] 3] w579) := ⟨HS.out.box hg hbox hb⟩
              clear HS hg hbox hb
              have HS := HS_
              clear HS_
              refine hK.out _ _ (⟨blk_cellv (HS.out.at4) 4 rfl, blk_cellv (HS.out.at0) 3 rfl, blk_cellv (HS.out.at4) 2 rfl⟩) (fun hHeld => ?_)
              clear hK K
              refine norm_ (a' := ?_) ?_ ?_
              rotate_left
              · show Act.put _ (some 64) _ = _
                simp only [Act.put, List.setIfInBounds_toArray, List.set_cons_zero, List.set_cons_succ, i64_w, i32_w]
                rfl
              refine one_ (i := 12) (N := some 65) #[true, true, true, true, true, true, true, true, true, true, true, true, true, false, false] rfl rfl (by kernel_rfl) (by decide) (fun K hK => ?_)
              refine goes_ Try.func41 (by kernel_rfl) rfl #[.slice (some ⟨g578, 0, none⟩) 2 2] (by rfl) rfl rfl (by (try simp only [List.map_toArray, List.map_cons, List.map_nil]); first | done | rfl) ?_
              refine (ratio_Add.calls _ [t530, t536] (some ⟨g578, 0, none⟩) 2 t542 _ ⟨C_of_blk (xs := [t530, t536]) (HS.out.nth 11 rfl) (by simp)⟩ ⟨HS.out.begin (l := []) (rest := [blk g187 #[.int .i64 a183, .int .i64 a184, .int .i64 a185, .int .i64 a186] 32, blk g190 #[.int .i64 0, .int .i64 0, .int .i64 0, .int .i64 0, .int .i64 0, .int .i64 0, .int .i64 0, .int .i64 0] 38, blk g203 #[.int .i64 a183, .int .i64 a184] 3, blk g280 #[.int .i64 24, .int .i64 a185, .int .i64 t277] 3, blk g306 #[.int .i64 t303, .int .i64 (wrap64 (a184 - 8)), .int .i64 (wrap64 ((wrap64 (a184 - 8)) + 1)), .int .i64 t472, .int .i64 t499, .int .i64 t483, .int .i64 0, .int .i64 0] 38, blk g469 #[.int .i64 (wrap64 (a184 - 8)), .int .i64 (wrap64 (a184 - 1))] 3, blk g480 #[.int .i64 a183, .int .i64 (wrap64 (a184 + 1))] 3, blk g490 #[.int .i64 3, .int .i64 t483] 3, blk g496 #[.int .i64 t493, .int .i64 4] 3, blk g553 #[.int .i64 2, .int .i64 t524] 3, blk g571 #[.int .i64 2, .int .i64 (wrap64 ((wrap64 (a184 - 8)) + 1))] 3, blk g578 #[.int .i64 t530, .int .i64 t536] 3])⟩ HA543).mono ?_
              rintro e_ w582 ⟨rfl, hS⟩
              have HS_ : Aside0 (Sep (fps []) w [blk g187 #[.int .i64 a183, .int .i64 a184, .int .i64 a185, .int .i64 a186] 32, blk g190 #[.int .i64 0, .int .i64 0, .int .i64 0, .int .i64 0, .int .i64 0, .int .i64 0, .int .i64 0, .int .i64 0] 38, blk g203 #[.int .i64 a183, .int .i64 a184] 3, blk g280 #[.int .i64 24, .int .i64 a185, .int .i64 t277] 3, blk g306 #[.int .i64 t303, .int .i64 (wrap64 (a184 - 8)), .int .i64 (wrap64 ((wrap64 (a184 - 8)) + 1)), .int .i64 t472, .int .i64 t499, .int .i64 t483, .int .i64 0, .int .i64 0] 38, blk g469 #[.int .i64 (wrap64 (a184 - 8)), .int .i64 (wrap64 (a184 - 1))] 3, blk g480 #[.int .i64 a183, .int .i64 (wrap64 (a184 + 1))] 3, blk g490 #[.int .i64 3, .int .i64 t483] 3, blk g496 #[.int .i64 t493, .int .i64 4] 3, blk g553 #[.int .i64 2, .int .i64 t524] 3, blk g571 #[.int .i64 2, .int .i64 (wrap64 ((wrap64 (a184 - 8)) + 1))] 3, blk g578 #[.int .i64 t530, .int .i64 t536] 3] w582) := ⟨HS.out.call (l := []) (rest := [blk g187 #[.int .i64 a183, .int .i64 a184, .int .i64 a185, .int .i64 a186] 32, blk g190 #[.int .i64 0, .int .i64 0, .int .i64 0, .int .i64 0, .int .i64 0, .int .i64 0, .int .i64 0, .int .i64 0] 38, blk g203 #[.int .i64 a183, .int .i64 a184] 3, blk g280 #[.int .i64 24, .int .i64 a185, .int .i64 t277] 3, blk g306 #[.int .i64 t303, .int .i64 (wrap64 (a184 - 8)), .int .i64 (wrap64 ((wrap64 (a184 - 8)) + 1)), .int .i64 t472, .int .i64 t499, .int .i64 t483, .int .i64 0, .int .i64 0] 38, blk g469 #[.int .i64 (wrap64 (a184 - 8)), .int .i64 (wrap64 (a184 - 1))] 3, blk g480 #[.int .i64 a183, .int .i64 (wrap64 (a184 + 1))] 3, blk g490 #[.int .i64 3, .int .i64 t483] 3, blk g496 #[.int .i64 t493, .int .i64 4] 3, blk g553 #[.int .i64 2, .int .i64 t524] 3, blk g571 #[.int .i64 2, .int .i64 (wrap64 ((wrap64 (a184 - 8)) + 1))] 3, blk g578 #[.int .i64 t530, .int .i64 t536] 3]) hS⟩
              clear HS hS
              have HS := HS_
              clear HS_
              refine ⟨_, rfl, ?_⟩
              refine hK.out _ _ (⟨blk_cellv (HS.out.at4) 4 rfl, blk_cellv (HS.out.at0) 3 rfl, blk_cellv (HS.out.at4) 2 rfl⟩) (fun hHeld => ?_)
              clear hK K
              refine norm_ (a' := ?_) ?_ ?_
              rotate_left
              · show Act.put _ (some 65) _ = _
                simp only [Act.put, List.setIfInBounds_toArray, List.set_cons_zero, List.set_cons_succ, i64_w, i32_w]
                rfl
              refine pure_ (i := 13) (N := some 66) (v := ?_) (a' := ?_) #[true, true, true, true, true, true, true, true, true, true, true, true, true, true, false] rfl rfl (by kernel_rfl) (fun _ _ _ h => h) (Or.inl ⟨by rfl, ?_⟩) ?_ ?_
              rotate_left
              · intro w'
                go_simp
                with_reducible rfl
              rotate_left
              · simp only [Act.put, List.setIfInBounds_toArray, List.set_cons_zero, List.set_cons_succ, i64_w, i32_w]
                rfl
              refine one_ (i := 14) (N := none) #[true, true, true, true, true, true, true, true, true, true, true, true, true, true, true] rfl rfl (by kernel_rfl) (by decide) (fun K hK => ?_)
              have hc584 := blk_cellv (v := .int .i64 0) (HS.out.at4) 6 rfl
              have hz585 := blk_fz (HS.out.at4) 6
              refine store_step (w1 := (World.setCell w582 ⟨g306, 6, none⟩ (.int .i64 t542))) (by rfl) rfl ?hr ?_
              case hr => first | (go_simp; done) | (go_simp; rfl)
              clear hc584 hz585
              intro w583 hst
              have hq0 : Sep (fps []) w [blk g187 #[.int .i64 a183, .int .i64 a184, .int .i64 a185, .int .i64 a186] 32, blk g190 #[.int .i64 0, .int .i64 0, .int .i64 0, .int .i64 0, .int .i64 0, .int .i64 0, .int .i64 0, .int .i64 0] 38, blk g203 #[.int .i64 a183, .int .i64 a184] 3, blk g280 #[.int .i64 24, .int .i64 a185, .int .i64 t277] 3, blk g306 #[.int .i64 t303, .int .i64 (wrap64 (a184 - 8)), .int .i64 (wrap64 ((wrap64 (a184 - 8)) + 1)), .int .i64 t472, .int .i64 t499, .int .i64 t483, .int .i64 t542, .int .i64 0] 38, blk g469 #[.int .i64 (wrap64 (a184 - 8)), .int .i64 (wrap64 (a184 - 1))] 3, blk g480 #[.int .i64 a183, .int .i64 (wrap64 (a184 + 1))] 3, blk g490 #[.int .i64 3, .int .i64 t483] 3, blk g496 #[.int .i64 t493, .int .i64 4] 3, blk g553 #[.int .i64 2, .int .i64 t524] 3, blk g571 #[.int .i64 2, .int .i64 (wrap64 ((wrap64 (a184 - 8)) + 1))] 3, blk g578 #[.int .i64 t530, .int .i64 t536] 3] (World.setCell w582 ⟨g306, 6, none⟩ (.int .i64 t542)) := (HS.out).set1 (l1 := [blk g187 #[.int .i64 a183, .int .i64 a184, .int .i64 a185, .int .i64 a186] 32, blk g190 #[.int .i64 0, .int .i64 0, .int .i64 0, .int .i64 0, .int .i64 0, .int .i64 0, .int .i64 0, .int .i64 0] 38, blk g203 #[.int .i64 a183, .int .i64 a184] 3, blk g280 #[.int .i64 24, .int .i64 a185, .int .i64 t277] 3]) (l2 := [blk g469 #[.int .i64 (wrap64 (a184 - 8)), .int .i64 (wrap64 (a184 - 1))] 3, blk g480 #[.int .i64 a183, .int .i64 (wrap64 (a184 + 1))] 3, blk g490 #[.int .i64 3, .int .i64 t483] 3, blk g496 #[.int .i64 t493, .int .i64 4] 3, blk g553 #[.int .i64 2, .int .i64 t524] 3, blk g571 #[.int .i64 2, .int .i64 (wrap64 ((wrap64 (a184 - 8)) + 1))] 3, blk g578 #[.int .i64 t530, .int .i64 t536] 3]) 6 (.int .i64 t542)
              have HS_ : Aside0 (Sep (fps []) w [blk g187 #[.int .i64 a183, .int .i64 a184, .int .i64 a185, .int .i64 a186] 32, blk g190 #[.int .i64 0, .int .i64 0, .int .i64 0, .int .i64 0, .int .i64 0, .int .i64 0, .int .i64 0, .int .i64 0] 38, blk g203 #[.int .i64 a183, .int .i64 a184] 3, blk g280 #[.int .i64 24, .int .i64 a185, .int .i64 t277] 3, blk g306 #[.int .i64 t303, .int .i64 (wrap64 (a184 - 8)), .int .i64 (wrap64 ((wrap64 (a184 - 8)) + 1)), .int .i64 t472, .int .i64 t499, .int .i64 t483, .int .i64 t542, .int .i64 0] 38, blk g469 #[.int .i64 (wrap64 (a184 - 8)), .int .i64 (wrap64 (a184 - 1))] 3, blk g480 #[.int .i64 a183, .int .i64 (wrap64 (a184 + 1))] 3, blk g490 #[.int .i64 3, .int .i64 t483] 3, blk g496 #[.int .i64 t493, .int .i64 4] 3, blk g553 #[.int .i64 2, .int .i64 t524] 3, blk g571 #[.int .i64 2, .int .i64 (wrap64 ((wrap64 (a184 - 8)) + 1))] 3, blk g578 #[.int .i64 t530, .int .i64 t536] 3] w583) := ⟨by rw [hst]; exact hq0⟩
              clear hq0
              clear HS hst
              have HS := HS_
              clear HS_
              refine hK.out _ _ (⟨blk_cellv (HS.out.at4) 4 rfl, blk_cellv (HS.out.at0) 3 rfl, blk_cellv (HS.out.at4) 2 rfl⟩) (fun hHeld => ?_)
              clear hK K
              refine done_ (by kernel_rfl) ?_
              go_wp2_with fail
              go_meet
              case rel => exact ⟨g553, g571, g578, ⟨((((((((((((HS.out).front 11 (by simp)).front 11 (by simp)).front 11 (by simp)).front 11 (by simp)).front 11 (by simp)).front 11 (by simp)).front 11 (by simp)).front 11 (by simp)).front 11 (by simp)).front 11 (by simp)).front 11 (by simp)).front 11 (by simp)⟩⟩
          · refine slice_step (n := 2) (by rfl) (N := 62) rfl (cs := #[.int .i64 2, .int .i64 (wrap64 ((wrap64 (a184 - 8)) + 1))]) (t := 3) ?hr ?_
            case hr => first | (go_simp; done) | (go_simp; rfl)
            intro g586 hg w587 hbox hb
            have HS_ : Aside0 (Sep (fps []) w [blk g187 #[.int .i64 a183, .int .i64 a184, .int .i64 a185, .int .i64 a186] 32, blk g190 #[.int .i64 0, .int .i64 0, .int .i64 0, .int .i64 0, .int .i64 0, .int .i64 0, .int .i64 0, .int .i64 0] 38, blk g203 #[.int .i64 a183, .int .i64 a184] 3, blk g280 #[.int .i64 24, .int .i64 a185, .int .i64 t277] 3, blk g306 #[.int .i64 t303, .int .i64 (wrap64 (a184 - 8)), .int .i64 (wrap64 ((wrap64 (a184 - 8)) + 1)), .int .i64 t472, .int .i64 t499, .int .i64 t483, .int .i64 0, .int .i64 0] 38, blk g469 #[.int .i64 (wrap64 (a184 - 8)), .int .i64 (wrap64 (a184 - 1))] 3, blk g480 #[.int .i64 a183, .int .i64 (wrap64 (a184 + 1))] 3, blk g490 #[.int .i64 3, .int .i64 t483] 3, blk g496 #[.int .i64 t493, .int .i64 4] 3, blk g586 #[.int .i64 2, .int .i64 (wrap64 ((wrap64 (a184 - 8)) + 1))] 3] w587) := ⟨HS.out.box hg hbox hb⟩
            clear HS hg hbox hb
            have HS := HS_
            clear HS_
            refine hK.out _ _ (⟨blk_cellv (HS.out.at4) 4 rfl, blk_cellv (HS.out.at0) 3 rfl, blk_cellv (HS.out.at4) 2 rfl⟩) (fun hHeld => ?_)
            clear hK K
            refine norm_ (a' := ?_) ?_ ?_
            rotate_left
            · show Act.put _ (some 62) _ = _
              simp only [Act.put, List.setIfInBounds_toArray, List.set_cons_zero, List.set_cons_succ, i64_w, i32_w]
              rfl
            refine one_ (i := 5) (N := some 58) #[true, true, true, true, true, true, false, true, true, true, false, false, false, false, false] rfl rfl (by kernel_rfl) (by decide) (fun K hK => ?_)
            refine slice_step (n := 2) (by rfl) (N := 58) rfl (cs := #[.int .i64 2, .int .i64 t524]) (t := 3) ?hr ?_
            case hr => first | (go_simp; done) | (go_simp; rfl)
            intro g589 hg w590 hbox hb
            have HS_ : Aside0 (Sep (fps []) w [blk g187 #[.int .i64 a183, .int .i64 a184, .int .i64 a185, .int .i64 a186] 32, blk g190 #[.int .i64 0, .int .i64 0, .int .i64 0, .int .i64 0, .int .i64 0, .int .i64 0, .int .i64 0, .int .i64 0] 38, blk g203 #[.int .i64 a183, .int .i64 a184] 3, blk g280 #[.int .i64 24, .int .i64 a185, .int .i64 t277] 3, blk g306 #[.int .i64 t303, .int .i64 (wrap64 (a184 - 8)), .int .i64 (wrap64 ((wrap64 (a184 - 8)) + 1)), .int .i64 t472, .int .i64 t499, .int .i64 t483, .int .i64 0, .int .i64 0] 38, blk g469 #[.int .i64 (wrap64 (a184 - 8)), .int .i64 (wrap64 (a184 - 1))] 3, blk g480 #[.int .i64 a183, .int .i64 (wrap64 (a184 + 1))] 3, blk g490 #[.int .i64 3, .int .i64 t483] 3, blk g496 #[.int .i64 t493, .int .i64 4] 3, blk g586 #[.int .i64 2, .int .i64 (wrap64 ((wrap64 (a184 - 8)) + 1))] 3, blk g589 #[.int .i64 2, .int .i64 t524] 3] w590) := ⟨HS.out.box hg hbox hb⟩
            clear HS hg hbox hb
            have HS := HS_
            clear HS_
            refine hK.out _ _ (⟨blk_cellv (HS.out.at4) 4 rfl, blk_cellv (HS.out.at0) 3 rfl, blk_cellv (HS.out.at4) 2 rfl⟩) (fun hHeld => ?_)
            clear hK K
            refine norm_ (a' := ?_) ?_ ?_
            rotate_left
            · show Act.put _ (some 58) _ = _
              simp only [Act.put, List.setIfInBounds_toArray, List.set_cons_zero, List.set_cons_succ, i64_w, i32_w]
              rfl
            refine one_ (i := 6) (N := some 59) #[true, true, true, true, true, true, true, true, true, true, false, false, false, false, false] rfl rfl (by kernel_rfl) (by decide) (fun K hK => ?_)
            refine goes_ Try.func42 (by kernel_rfl) rfl #[.slice (some ⟨g589, 0, none⟩) 2 2] (by rfl) rfl rfl (by (try simp only [List.map_toArray, List.map_cons, List.map_nil]); first | done | rfl) ?_
            refine (ratio_Mul.calls _ [2, t524] (some ⟨g589, 0, none⟩) 2 t530 _ ⟨C_of_blk (xs := [2, t524]) (HS.out.nth 10 rfl) (by simp)⟩ ⟨HS.out.begin (l := []) (rest := [blk g187 #[.int .i64 a183, .int .i64 a184, .int .i64 a185, .int .i64 a186] 32, blk g190 #[.int .i64 0, .int .i64 0, .int .i64 0, .int .i64 0, .int .i64 0, .int .i64 0, .int .i64 0, .int .i64 0] 38, blk g203 #[.int .i64 a183, .int .i64 a184] 3, blk g280 #[.int .i64 24, .int .i64 a185, .int .i64 t277] 3, blk g306 #[.int .i64 t303, .int .i64 (wrap64 (a184 - 8)), .int .i64 (wrap64 ((wrap64 (a184 - 8)) + 1)), .int .i64 t472, .int .i64 t499, .int .i64 t483, .int .i64 0, .int .i64 0] 38, blk g469 #[.int .i64 (wrap64 (a184 - 8)), .int .i64 (wrap64 (a184 - 1))] 3, blk g480 #[.int .i64 a183, .int .i64 (wrap64 (a184 + 1))] 3, blk g490 #[.int .i64 3, .int .i64 t483] 3, blk g496 #[.int .i64 t493, .int .i64 4] 3, blk g586 #[.int .i64 2, .int .i64 (wrap64 ((wrap64 (a184 - 8)) + 1))] 3, blk g589 #[.int .i64 2, .int .i64 t524] 3])⟩ HA531).mono ?_
            rintro e_ w593 ⟨rfl, hS⟩
            have HS_ : Aside0 (Sep (fps []) w [blk g187 #[.int .i64 a183, .int .i64 a184, .int .i64 a185, .int .i64 a186] 32, blk g190 #[.int .i64 0, .int .i64 0, .int .i64 0, .int .i64 0, .int .i64 0, .int .i64 0, .int .i64 0, .int .i64 0] 38, blk g203 #[.int .i64 a183, .int .i64 a184] 3, blk g280 #[.int .i64 24, .int .i64 a185, .int .i64 t277] 3, blk g306 #[.int .i64 t303, .int .i64 (wrap64 (a184 - 8)), .int .i64 (wrap64 ((wrap64 (a184 - 8)) + 1)), .int .i64 t472, .int .i64 t499, .int .i64 t483, .int .i64 0, .int .i64 0] 38, blk g469 #[.int .i64 (wrap64 (a184 - 8)), .int .i64 (wrap64 (a184 - 1))] 3, blk g480 #[.int .i64 a183, .int .i64 (wrap64 (a184 + 1))] 3, blk g490 #[.int .i64 3, .int .i64 t483] 3, blk g496 #[.int .i64 t493, .int .i64 4] 3, blk g586 #[.int .i64 2, .int .i64 (wrap64 ((wrap64 (a184 - 8)) + 1))] 3, blk g589 #[.int .i64 2, .int .i64 t524] 3] w593) := ⟨HS.out.call (l := []) (rest := [blk g187 #[.int .i64 a183, .int .i64 a184, .int .i64 a185, .int .i64 a186] 32, blk g190 #[.int .i64 0, .int .i64 0, .int .i64 0, .int .i64 0, .int .i64 0, .int .i64 0, .int .i64 0, .int .i64 0] 38, blk g203 #[.int .i64 a183, .int .i64 a184] 3, blk g280 #[.int .i64 24, .int .i64 a185, .int .i64 t277] 3, blk g306 #[.int .i64 t303, .int .i64 (wrap64 (a184 - 8)), .int .i64 (wrap64 ((wrap64 (a184 - 8)) + 1)), .int .i64 t472, .int .i64 t499, .int .i64 t483, .int .i64 0, .int .i64 0] 38, blk g469 #[.int .i64 (wrap64 (a184 - 8)), .int .i64 (wrap64 (a184 - 1))] 3, blk g480 #[.int .i64 a183, .int .i64 (wrap64 (a184 + 1))] 3, blk g490 #[.int .i64 3, .int .i64 t483] 3, blk g496 #[.int .i64 t493, .int .i64 4] 3, blk g586 #[.int .i64 2, .int .i64 (wrap64 ((wrap64 (a184 - 8)) + 1))] 3, blk g589 #[.int .i64 2, .int .i64 t524] 3]) hS⟩
            clear HS hS
            have HS := HS_
            clear HS_
            refine ⟨_, rfl, ?_⟩
            refine hK.out _ _ (⟨blk_cellv (HS.out.at4) 4 rfl, blk_cellv (HS.out.at0) 3 rfl, blk_cellv (HS.out.at4) 2 rfl⟩) (fun hHeld => ?_)
            clear hK K
            refine norm_ (a' := ?_) ?_ ?_
            rotate_left
            · show Act.put _ (some 59) _ = _
              simp only [Act.put, List.setIfInBounds_toArray, List.set_cons_zero, List.set_cons_succ, i64_w, i32_w]
              rfl
            refine one_ (i := 10) (N := some 63) #[true, true, true, true, true, true, true, true, true, true, true, false, false, false, false] rfl rfl (by kernel_rfl) (by decide) (fun K hK => ?_)
            refine goes_ Try.func42 (by kernel_rfl) rfl #[.slice (some ⟨g586, 0, none⟩) 2 2] (by rfl) rfl rfl (by (try simp only [List.map_toArray, List.map_cons, List.map_nil]); first | done | rfl) ?_
            refine (ratio_Mul.calls _ [2, wrap64 ((wrap64 (a184 - 8)) + 1)] (some ⟨g586, 0, none⟩) 2 t536 _ ⟨C_of_blk (xs := [2, wrap64 ((wrap64 (a184 - 8)) + 1)]) (HS.out.nth 9 rfl) (by simp)⟩ ⟨HS.out.begin (l := []) (rest := [blk g187 #[.int .i64 a183, .int .i64 a184, .int .i64 a185, .int .i64 a186] 32, blk g190 #[.int .i64 0, .int .i64 0, .int .i64 0, .int .i64 0, .int .i64 0, .int .i64 0, .int .i64 0, .int .i64 0] 38, blk g203 #[.int .i64 a183, .int .i64 a184] 3, blk g280 #[.int .i64 24, .int .i64 a185, .int .i64 t277] 3, blk g306 #[.int .i64 t303, .int .i64 (wrap64 (a184 - 8)), .int .i64 (wrap64 ((wrap64 (a184 - 8)) + 1)), .int .i64 t472, .int .i64 t499, .int .i64 t483, .int .i64 0, .int .i64 0] 38, blk g469 #[.int .i64 (wrap64 (a184 - 8)), .int .i64 (wrap64 (a184 - 1))] 3, blk g480 #[.int .i64 a183, .int .i64 (wrap64 (a184 + 1))] 3, blk g490 #[.int .i64 3, .int .i64 t483] 3, blk g496 #[.int .i64 t493, .int .i64 4] 3, blk g586 #[.int .i64 2, .int .i64 (wrap64 ((wrap64 (a184 - 8)) + 1))] 3, blk g589 #[.int .i64 2, .int .i64 t524] 3])⟩ HA537).mono ?_
            rintro e_ w595 ⟨rfl, hS⟩
            have HS_ : Aside0 (Sep (fps []) w [blk g187 #[.int .i64 a183, .int .i64 a184, .int .i64 a185, .int .i64 a186] 32, blk g190 #[.int .i64 0, .int .i64 0, .int .i64 0, .int .i64 0, .int .i64 0, .int .i64 0, .int .i64 0, .int .i64 0] 38, blk g203 #[.int .i64 a183, .int .i64 a184] 3, blk g280 #[.int .i64 24, .int .i64 a185, .int .i64 t277] 3, blk g306 #[.int .i64 t303, .int .i64 (wrap64 (a184 - 8)), .int .i64 (wrap64 ((wrap64 (a184 - 8)) + 1)), .int .i64 t472, .int .i64 t499, .int .i64 t483, .int .i64 0, .int .i64 0] 38, blk g469 #[.int .i64 (wrap64 (a184 - 8)), .int .i64 (wrap64 (a184 - 1))] 3, blk g480 #[.int .i64 a183, .int .i64 (wrap64 (a184 + 1))] 3, blk g490 #[.int .i64 3, .int .i64 t483] 3, blk g496 #[.int .i64 t493, .int .i64 4] 3, blk g586 #[.int .i64 2, .int .i64 (wrap64 ((wrap64 (a184 - 8)) + 1))] 3, blk g589 #[.int .i64 2, .int .i64 t524] 3] w595) := ⟨HS.out.call (l := []) (rest := [blk g187 #[.int .i64 a183, .int .i64 a184, .int .i64 a185, .int .i64 a186] 32, blk g190 #[.int .i64 0, .int .i64 0, .int .i64 0, .int .i64 0, .int .i64 0, .int .i64 0, .int .i64 0, .int .i64 0] 38, blk g203 #[.int .i64 a183, .int .i64 a184] 3, blk g280 #[.int .i64 24, .int .i64 a185, .int .i64 t277] 3, blk g306 #[.int .i64 t303, .int .i64 (wrap64 (a184 - 8)), .int .i64 (wrap64 ((wrap64 (a184 - 8)) + 1)), .int .i64 t472, .int .i64 t499, .int .i64 t483, .int .i64 0, .int .i64 0] 38, blk g469 #[.int .i64 (wrap64 (a184 - 8)), .int .i64 (wrap64 (a184 - 1))] 3, blk g480 #[.int .i64 a183, .int .i64 (wrap64 (a184 + 1))] 3, blk g490 #[.int .i64 3, .int .i64 t483] 3, blk g496 #[.int .i64 t493, .int .i64 4] 3, blk g586 #[.int .i64 2, .int .i64 (wrap64 ((wrap64 (a184 - 8)) + 1))] 3, blk g589 #[.int .i64 2, .int .i64 t524] 3]) hS⟩
            clear HS hS
            have HS := HS_
            clear HS_
            refine ⟨_, rfl, ?_⟩
            refine hK.out _ _ (⟨blk_cellv (HS.out.at4) 4 rfl, blk_cellv (HS.out.at0) 3 rfl, blk_cellv (HS.out.at4) 2 rfl⟩) (fun hHeld => ?_)
            clear hK K
            refine norm_ (a' := ?_) ?_ ?_
            rotate_left
            · show Act.put _ (some 63) _ = _
              simp only [Act.put, List.setIfInBounds_toArray, List.set_cons_zero, List.set_cons_succ, i64_w, i32_w]
              rfl
            refine one_ (i := 11) (N := some 64) #[true, true, true, true, true, true, true, true, true, true, true, true, false, false, false] rfl rfl (by kernel_rfl) (by decide) (fun K hK => ?_)
            refine slice_step (n := 2) (by rfl) (N := 64) rfl (cs := #[.int .i64 t530, .int .i64 t536]) (t := 3) ?hr ?_
            case hr => first | (go_simp; done) | (go_simp; rfl)
            intro g596 hg w597 hbox hb
            have HS_ : Aside0 (Sep (fps []) w [blk g187 #[.int .i64 a183, .int .i64 a184, .int .i64 a185, .int .i64 a186] 32, blk g190 #[.int .i64 0, .int .i64 0, .int .i64 0, .int .i64 0, .int .i64 0, .int .i64 0, .int .i64 0, .int .i64 0] 38, blk g203 #[.int .i64 a183, .int .i64 a184] 3, blk g280 #[.int .i64 24, .int .i64 a185, .int .i64 t277] 3, blk g306 #[.int .i64 t303, .int .i64 (wrap64 (a184 - 8)), .int .i64 (wrap64 ((wrap64 (a184 - 8)) + 1)), .int .i64 t472, .int .i64 t499, .int .i64 t483, .int .i64 0, .int .i64 0] 38, blk g469 #[.int .i64 (wrap64 (a184 - 8)), .int .i64 (wrap64 (a184 - 1))] 3, blk g480 #[.int .i64 a183, .int .i64 (wrap64 (a184 + 1))] 3, blk g490 #[.int .i64 3, .int .i64 t483] 3, blk g496 #[.int .i64 t493, .int .i64 4] 3, blk g586 #[.int .i64 2, .int .i64 (wrap64 ((wrap64 (a184 - 8)) + 1))] 3, blk g589 #[.int .i64 2, .int .i64 t524] 3, blk g596 #[.int .i64 t530, .int .i64 t536] 3] w597) := ⟨HS.out.box hg hbox hb⟩
            clear HS hg hbox hb
            have HS := HS_
            clear HS_
            refine hK.out _ _ (⟨blk_cellv (HS.out.at4) 4 rfl, blk_cellv (HS.out.at0) 3 rfl, blk_cellv (HS.out.at4) 2 rfl⟩) (fun hHeld => ?_)
            clear hK K
            refine norm_ (a' := ?_) ?_ ?_
            rotate_left
            · show Act.put _ (some 64) _ = _
              simp only [Act.put, List.setIfInBounds_toArray, List.set_cons_zero, List.set_cons_succ, i64_w, i32_w]
              rfl
            refine one_ (i := 12) (N := some 65) #[true, true, true, true, true, true, true, true, true, true, true, true, true, false, false] rfl rfl (by kernel_rfl) (by decide) (fun K hK => ?_)
            refine goes_ Try.func41 (by kernel_rfl) rfl #[.slice (some ⟨g596, 0, none⟩) 2 2] (by rfl) rfl rfl (by (try simp only [List.map_toArray, List.map_cons, List.map_nil]); first | done | rfl) ?_
            refine (ratio_Add.calls _ [t530, t536] (some ⟨g596, 0, none⟩) 2 t542 _ ⟨C_of_blk (xs := [t530, t536]) (HS.out.nth 11 rfl) (by simp)⟩ ⟨HS.out.begin (l := []) (rest := [blk g187 #[.int .i64 a183, .int .i64 a184, .int .i64 a185, .int .i64 a186] 32, blk g190 #[.int .i64 0, .int .i64 0, .int .i64 0, .int .i64 0, .int .i64 0, .int .i64 0, .int .i64 0, .int .i64 0] 38, blk g203 #[.int .i64 a183, .int .i64 a184] 3, blk g280 #[.int .i64 24, .int .i64 a185, .int .i64 t277] 3, blk g306 #[.int .i64 t303, .int .i64 (wrap64 (a184 - 8)), .int .i64 (wrap64 ((wrap64 (a184 - 8)) + 1)), .int .i64 t472, .int .i64 t499, .int .i64 t483, .int .i64 0, .int .i64 0] 38, blk g469 #[.int .i64 (wrap64 (a184 - 8)), .int .i64 (wrap64 (a184 - 1))] 3, blk g480 #[.int .i64 a183, .int .i64 (wrap64 (a184 + 1))] 3, blk g490 #[.int .i64 3, .int .i64 t483] 3, blk g496 #[.int .i64 t493, .int .i64 4] 3, blk g586 #[.int .i64 2, .int .i64 (wrap64 ((wrap64 (a184 - 8)) + 1))] 3, blk g589 #[.int .i64 2, .int .i64 t524] 3, blk g596 #[.int .i64 t530, .int .i64 t536] 3])⟩ HA543).mono ?_
            rintro e_ w600 ⟨rfl, hS⟩
            have HS_ : Aside0 (Sep (fps []) w [blk g187 #[.int .i64 a183, .int .i64 a184, .int .i64 a185, .int .i64 a186] 32, blk g190 #[.int .i64 0, .int .i64 0, .int .i64 0, .int .i64 0, .int .i64 0, .int .i64 0, .int .i64 0, .int .i64 0] 38, blk g203 #[.int .i64 a183, .int .i64 a184] 3, blk g280 #[.int .i64 24, .int .i64 a185, .int .i64 t277] 3, blk g306 #[.int .i64 t303, .int .i64 (wrap64 (a184 - 8)), .int .i64 (wrap64 ((wrap64 (a184 - 8)) + 1)), .int .i64 t472, .int .i64 t499, .int .i64 t483, .int .i64 0, .int .i64 0] 38, blk g469 #[.int .i64 (wrap64 (a184 - 8)), .int .i64 (wrap64 (a184 - 1))] 3, blk g480 #[.int .i64 a183, .int .i64 (wrap64 (a184 + 1))] 3, blk g490 #[.int .i64 3, .int .i64 t483] 3, blk g496 #[.int .i64 t493, .int .i64 4] 3, blk g586 #[.int .i64 2, .int .i64 (wrap64 ((wrap64 (a184 - 8)) + 1))] 3, blk g589 #[.int .i64 2, .int .i64 t524] 3, blk g596 #[.int .i64 t530, .int .i64 t536] 3] w600) := ⟨HS.out.call (l := []) (rest := [blk g187 #[.int .i64 a183, .int .i64 a184, .int .i64 a185, .int .i64 a186] 32, blk g190 #[.int .i64 0, .int .i64 0, .int .i64 0, .int .i64 0, .int .i64 0, .int .i64 0, .int .i64 0, .int .i64 0] 38, blk g203 #[.int .i64 a183, .int .i64 a184] 3, blk g280 #[.int .i64 24, .int .i64 a185, .int .i64 t277] 3, blk g306 #[.int .i64 t303, .int .i64 (wrap64 (a184 - 8)), .int .i64 (wrap64 ((wrap64 (a184 - 8)) + 1)), .int .i64 t472, .int .i64 t499, .int .i64 t483, .int .i64 0, .int .i64 0] 38, blk g469 #[.int .i64 (wrap64 (a184 - 8)), .int .i64 (wrap64 (a184 - 1))] 3, blk g480 #[.int .i64 a183, .int .i64 (wrap64 (a184 + 1))] 3, blk g490 #[.int .i64 3, .int .i64 t483] 3, blk g496 #[.int .i64 t493, .int .i64 4] 3, blk g586 #[.int .i64 2, .int .i64 (wrap64 ((wrap64 (a184 - 8)) + 1))] 3, blk g589 #[.int .i64 2, .int .i64 t524] 3, blk g596 #[.int .i64 t530, .int .i64 t536] 3]) hS⟩
            clear HS hS
            have HS := HS_
            clear HS_
            refine ⟨_, rfl, ?_⟩
            refine hK.out _ _ (⟨blk_cellv (HS.out.at4) 4 rfl, blk_cellv (HS.out.at0) 3 rfl, blk_cellv (HS.out.at4) 2 rfl⟩) (fun hHeld => ?_)
            clear hK K
            refine norm_ (a' := ?_) ?_ ?_
            rotate_left
            · show Act.put _ (some 65) _ = _
              simp only [Act.put, List.setIfInBounds_toArray, List.set_cons_zero, List.set_cons_succ, i64_w, i32_w]
              rfl
            refine pure_ (i := 13) (N := some 66) (v := ?_) (a' := ?_) #[true, true, true, true, true, true, true, true, true, true, true, true, true, true, false] rfl rfl (by kernel_rfl) (fun _ _ _ h => h) (Or.inl ⟨by rfl, ?_⟩) ?_ ?_
            rotate_left
            · intro w'
              go_simp
              with_reducible rfl
            rotate_left
            · simp only [Act.put, List.setIfInBounds_toArray, List.set_cons_zero, List.set_cons_succ, i64_w, i32_w]
              rfl
            refine one_ (i := 14) (N := none) #[true, true, true, true, true, true, true, true, true, true, true, true, true, true, true] rfl rfl (by kernel_rfl) (by decide) (fun K hK => ?_)
            have hc602 := blk_cellv (v := .int .i64 0) (HS.out.at4) 6 rfl
            have hz603 := blk_fz (HS.out.at4) 6
            refine store_step (w1 := (World.setCell w600 ⟨g306, 6, none⟩ (.int .i64 t542))) (by rfl) rfl ?hr ?_
            case hr => first | (go_simp; done) | (go_simp; rfl)
            clear hc602 hz603
            intro w601 hst
            have hq0 : Sep (fps []) w [blk g187 #[.int .i64 a183, .int .i64 a184, .int .i64 a185, .int .i64 a186] 32, blk g190 #[.int .i64 0, .int .i64 0, .int .i64 0, .int .i64 0, .int .i64 0, .int .i64 0, .int .i64 0, .int .i64 0] 38, blk g203 #[.int .i64 a183, .int .i64 a184] 3, blk g280 #[.int .i64 24, .int .i64 a185, .int .i64 t277] 3, blk g306 #[.int .i64 t303, .int .i64 (wrap64 (a184 - 8)), .int .i64 (wrap64 ((wrap64 (a184 - 8)) + 1)), .int .i64 t472, .int .i64 t499, .int .i64 t483, .int .i64 t542, .int .i64 0] 38, blk g469 #[.int .i64 (wrap64 (a184 - 8)), .int .i64 (wrap64 (a184 - 1))] 3, blk g480 #[.int .i64 a183, .int .i64 (wrap64 (a184 + 1))] 3, blk g490 #[.int .i64 3, .int .i64 t483] 3, blk g496 #[.int .i64 t493, .int .i64 4] 3, blk g586 #[.int .i64 2, .int .i64 (wrap64 ((wrap64 (a184 - 8)) + 1))] 3, blk g589 #[.int .i64 2, .int .i64 t524] 3, blk g596 #[.int .i64 t530, .int .i64 t536] 3] (World.setCell w600 ⟨g306, 6, none⟩ (.int .i64 t542)) := (HS.out).set1 (l1 := [blk g187 #[.int .i64 a183, .int .i64 a184, .int .i64 a185, .int .i64 a186] 32, blk g190 #[.int .i64 0, .int .i64 0, .int .i64 0, .int .i64 0, .int .i64 0, .int .i64 0, .int .i64 0, .int .i64 0] 38, blk g203 #[.int .i64 a183, .int .i64 a184] 3, blk g280 #[.int .i64 24, .int .i64 a185, .int .i64 t277] 3]) (l2 := [blk g469 #[.int .i64 (wrap64 (a184 - 8)), .int .i64 (wrap64 (a184 - 1))] 3, blk g480 #[.int .i64 a183, .int .i64 (wrap64 (a184 + 1))] 3, blk g490 #[.int .i64 3, .int .i64 t483] 3, blk g496 #[.int .i64 t493, .int .i64 4] 3, blk g586 #[.int .i64 2, .int .i64 (wrap64 ((wrap64 (a184 - 8)) + 1))] 3, blk g589 #[.int .i64 2, .int .i64 t524] 3, blk g596 #[.int .i64 t530, .int .i64 t536] 3]) 6 (.int .i64 t542)
            have HS_ : Aside0 (Sep (fps []) w [blk g187 #[.int .i64 a183, .int .i64 a184, .int .i64 a185, .int .i64 a186] 32, blk g190 #[.int .i64 0, .int .i64 0, .int .i64 0, .int .i64 0, .int .i64 0, .int .i64 0, .int .i64 0, .int .i64 0] 38, blk g203 #[.int .i64 a183, .int .i64 a184] 3, blk g280 #[.int .i64 24, .int .i64 a185, .int .i64 t277] 3, blk g306 #[.int .i64 t303, .int .i64 (wrap64 (a184 - 8)), .int .i64 (wrap64 ((wrap64 (a184 - 8)) + 1)), .int .i64 t472, .int .i64 t499, .int .i64 t483, .int .i64 t542, .int .i64 0] 38, blk g469 #[.int .i64 (wrap64 (a184 - 8)), .int .i64 (wrap64 (a184 - 1))] 3, blk g480 #[.int .i64 a183, .int .i64 (wrap64 (a184 + 1))] 3, blk g490 #[.int .i64 3, .int .i64 t483] 3, blk g496 #[.int .i64 t493, .int .i64 4] 3, blk g586 #[.int .i64 2, .int .i64 (wrap64 ((wrap64 (a184 - 8)) + 1))] 3, blk g589 #[.int .i64 2, .int .i64 t524] 3, blk g596 #[.int .i64 t530, .int .i64 t536] 3] w601) := ⟨by rw [hst]; exact hq0⟩
            clear hq0
            clear HS hst
            have HS := HS_
            clear HS_
            refine hK.out _ _ (⟨blk_cellv (HS.out.at4) 4 rfl, blk_cellv (HS.out.at0) 3 rfl, blk_cellv (HS.out.at4) 2 rfl⟩) (fun hHeld => ?_)
            clear hK K
            refine done_ (by kernel_rfl) ?_
            go_wp2_with fail
            go_meet
            case rel => exact ⟨g589, g586, g596, ⟨((((((((((((HS.out).front 11 (by simp)).front 10 (by simp)).front 11 (by simp)).front 11 (by simp)).front 11 (by simp)).front 11 (by simp)).front 11 (by simp)).front 11 (by simp)).front 11 (by simp)).front 11 (by simp)).front 11 (by simp)).front 11 (by simp)⟩⟩
        · refine slice_step (n := 2) (by rfl) (N := 62) rfl (cs := #[.int .i64 2, .int .i64 (wrap64 ((wrap64 (a184 - 8)) + 1))]) (t := 3) ?hr ?_
          case hr => first | (go_simp; done) | (go_simp; rfl)
          intro g604 hg w605 hbox hb
          have HS_ : Aside0 (Sep (fps []) w [blk g187 #[.int .i64 a183, .int .i64 a184, .int .i64 a185, .int .i64 a186] 32, blk g190 #[.int .i64 0, .int .i64 0, .int .i64 0, .int .i64 0, .int .i64 0, .int .i64 0, .int .i64 0, .int .i64 0] 38, blk g203 #[.int .i64 a183, .int .i64 a184] 3, blk g280 #[.int .i64 24, .int .i64 a185, .int .i64 t277] 3, blk g306 #[.int .i64 t303, .int .i64 (wrap64 (a184 - 8)), .int .i64 (wrap64 ((wrap64 (a184 - 8)) + 1)), .int .i64 t472, .int .i64 t499, .int .i64 t483, .int .i64 0, .int .i64 0] 38, blk g469 #[.int .i64 (wrap64 (a184 - 8)), .int .i64 (wrap64 (a184 - 1))] 3, blk g480 #[.int .i64 a183, .int .i64 (wrap64 (a184 + 1))] 3, blk g490 #[.int .i64 3, .int .i64 t483] 3, blk g496 #[.int .i64 t493, .int .i64 4] 3, blk g604 #[.int .i64 2, .int .i64 (wrap64 ((wrap64 (a184 - 8)) + 1))] 3] w605) := ⟨HS.out.box hg hbox hb⟩
          clear HS hg hbox hb
          have HS := HS_
          clear HS_
          refine hK.out _ _ (⟨blk_cellv (HS.out.at4) 4 rfl, blk_cellv (HS.out.at0) 3 rfl, blk_cellv (HS.out.at4) 2 rfl⟩) (fun hHeld => ?_)
          clear hK K
          refine norm_ (a' := ?_) ?_ ?_
          rotate_left
          · show Act.put _ (some 62) _ = _
            simp only [Act.put, List.setIfInBounds_toArray, List.set_cons_zero, List.set_cons_succ, i64_w, i32_w]
            rfl
          refine one_ (i := 4) (N := some 57) #[true, true, true, true, true, false, false, true, true, true, false, false, false, false, false] rfl rfl (by kernel_rfl) (by decide) (fun K hK => ?_)
          refine goes_ Try.func45 (by kernel_rfl) rfl #[.int .i64 t499, .int .i64 a186] (by rfl) rfl rfl (by (try simp only [List.map_toArray, List.map_cons, List.map_nil]); first | done | rfl) ?_
          refine (ratio_Up.calls t499 a186 t524 _ ⟨HS.out.begin (l := []) (rest := [blk g187 #[.int .i64 a183, .int .i64 a184, .int .i64 a185, .int .i64 a186] 32, blk g190 #[.int .i64 0, .int .i64 0, .int .i64 0, .int .i64 0, .int .i64 0, .int .i64 0, .int .i64 0, .int .i64 0] 38, blk g203 #[.int .i64 a183, .int .i64 a184] 3, blk g280 #[.int .i64 24, .int .i64 a185, .int .i64 t277] 3, blk g306 #[.int .i64 t303, .int .i64 (wrap64 (a184 - 8)), .int .i64 (wrap64 ((wrap64 (a184 - 8)) + 1)), .int .i64 t472, .int .i64 t499, .int .i64 t483, .int .i64 0, .int .i64 0] 38, blk g469 #[.int .i64 (wrap64 (a184 - 8)), .int .i64 (wrap64 (a184 - 1))] 3, blk g480 #[.int .i64 a183, .int .i64 (wrap64 (a184 + 1))] 3, blk g490 #[.int .i64 3, .int .i64 t483] 3, blk g496 #[.int .i64 t493, .int .i64 4] 3, blk g604 #[.int .i64 2, .int .i64 (wrap64 ((wrap64 (a184 - 8)) + 1))] 3])⟩ HA525).mono ?_
          rintro e_ w608 ⟨rfl, hS⟩
          have HS_ : Aside0 (Sep (fps []) w [blk g187 #[.int .i64 a183, .int .i64 a184, .int .i64 a185, .int .i64 a186] 32, blk g190 #[.int .i64 0, .int .i64 0, .int .i64 0, .int .i64 0, .int .i64 0, .int .i64 0, .int .i64 0, .int .i64 0] 38, blk g203 #[.int .i64 a183, .int .i64 a184] 3, blk g280 #[.int .i64 24, .int .i64 a185, .int .i64 t277] 3, blk g306 #[.int .i64 t303, .int .i64 (wrap64 (a184 - 8)), .int .i64 (wrap64 ((wrap64 (a184 - 8)) + 1)), .int .i64 t472, .int .i64 t499, .int .i64 t483, .int .i64 0, .int .i64 0] 38, blk g469 #[.int .i64 (wrap64 (a184 - 8)), .int .i64 (wrap64 (a184 - 1))] 3, blk g480 #[.int .i64 a183, .int .i64 (wrap64 (a184 + 1))] 3, blk g490 #[.int .i64 3, .int .i64 t483] 3, blk g496 #[.int .i64 t493, .int .i64 4] 3, blk g604 #[.int .i64 2, .int .i64 (wrap64 ((wrap64 (a184 - 8)) + 1))] 3] w608) := ⟨HS.out.call (l := []) (rest := [blk g187 #[.int .i64 a183, .int .i64 a184, .int .i64 a185, .int .i64 a186] 32, blk g190 #[.int .i64 0, .int .i64 0, .int .i64 0, .int .i64 0, .int .i64 0, .int .i64 0, .int .i64 0, .int .i64 0] 38, blk g203 #[.int .i64 a183, .int .i64 a184] 3, blk g280 #[.int .i64 24, .int .i64 a185, .int .i64 t277] 3, blk g306 #[.int .i64 t303, .int .i64 (wrap64 (a184 - 8)), .int .i64 (wrap64 ((wrap64 (a184 - 8)) + 1)), .int .i64 t472, .int .i64 t499, .int .i64 t483, .int .i64 0, .int .i64 0] 38, blk g469 #[.int .i64 (wrap64 (a184 - 8)), .int .i64 (wrap64 (a184 - 1))] 3, blk g480 #[.int .i64 a183, .int .i64 (wrap64 (a184 + 1))] 3, blk g490 #[.int .i64 3, .int .i64 t483] 3, blk g496 #[.int .i64 t493, .int .i64 4] 3, blk g604 #[.int .i64 2, .int .i64 (wrap64 ((wrap64 (a184 - 8)) + 1))] 3]) hS⟩
          clear HS hS
          have HS := HS_
          clear HS_
          refine ⟨_, rfl, ?_⟩
          refine hK.out _ _ (⟨blk_cellv (HS.out.at4) 4 rfl, blk_cellv (HS.out.at0) 3 rfl, blk_cellv (HS.out.at4) 2 rfl⟩) (fun hHeld => ?_)
          clear hK K
          refine norm_ (a' := ?_) ?_ ?_
          rotate_left
          · show Act.put _ (some 57) _ = _
            simp only [Act.put, List.setIfInBounds_toArray, List.set_cons_zero, List.set_cons_succ, i64_w, i32_w]
            rfl
          refine one_ (i := 5) (N := some 58) #[true, true, true, true, true, true, false, true, true, true, false, false, false, false, false] rfl rfl (by kernel_rfl) (by decide) (fun K hK => ?_)
          refine slice_step (n := 2) (by rfl) (N := 58) rfl (cs := #[.int .i64 2, .int .i64 t524]) (t := 3) ?hr ?_
          case hr => first | (go_simp; done) | (go_simp; rfl)
          intro g609 hg w610 hbox hb
          have HS_ : Aside0 (Sep (fps []) w [blk g187 #[.int .i64 a183, .int .i64 a184, .int .i64 a185, .int .i64 a186] 32, blk g190 #[.int .i64 0, .int .i64 0, .int .i64 0, .int .i64 0, .int .i64 0, .int .i64 0, .int .i64 0, .int .i64 0] 38, blk g203 #[.int .i64 a183, .int .i64 a184] 3, blk g280 #[.int .i64 24, .int .i64 a185, .int .i64 t277] 3, blk g306 #[.int .i64 t303, .int .i64 (wrap64 (a184 - 8)), .int .i64 (wrap64 ((wrap64 (a184 - 8)) + 1)), .int .i64 t472, .int .i64 t499, .int .i64 t483, .int .i64 0, .int .i64 0] 38, blk g469 #[.int .i64 (wrap64 (a184 - 8)), .int .i64 (wrap64 (a184 - 1))] 3, blk g480 #[.int .i64 a183, .int .i64 (wrap64 (a184 + 1))] 3, blk g490 #[.int .i64 3, .int .i64 t483] 3, blk g496 #[.int .i64 t493, .int .i64 4] 3, blk g604 #[.int .i64 2, .int .i64 (wrap64 ((wrap64 (a184 - 8)) + 1))] 3, blk g609 #[.int .i64 2, .int .i64 t524] 3] w610) := ⟨HS.out.box hg hbox hb⟩
          clear HS hg hbox hb
          have HS := HS_
          clear HS_
          refine hK.out _ _ (⟨blk_cellv (HS.out.at4) 4 rfl, blk_cellv (HS.out.at0) 3 rfl, blk_cellv (HS.out.at4) 2 rfl⟩) (fun hHeld => ?_)
          clear hK K
          refine norm_ (a' := ?_) ?_ ?_
          rotate_left
          · show Act.put _ (some 58) _ = _
            simp only [Act.put, List.setIfInBounds_toArray, List.set_cons_zero, List.set_cons_succ, i64_w, i32_w]
            rfl
          refine one_ (i := 6) (N := some 59) #[true, true, true, true, true, true, true, true, true, true, false, false, false, false, false] rfl rfl (by kernel_rfl) (by decide) (fun K hK => ?_)
          refine goes_ Try.func42 (by kernel_rfl) rfl #[.slice (some ⟨g609, 0, none⟩) 2 2] (by rfl) rfl rfl (by (try simp only [List.map_toArray, List.map_cons, List.map_nil]); first | done | rfl) ?_
          refine (ratio_Mul.calls _ [2, t524] (some ⟨g609, 0, none⟩) 2 t530 _ ⟨C_of_blk (xs := [2, t524]) (HS.out.nth 10 rfl) (by simp)⟩ ⟨HS.out.begin (l := []) (rest := [blk g187 #[.int .i64 a183, .int .i64 a184, .int .i64 a185, .int .i64 a186] 32, blk g190 #[.int .i64 0, .int .i64 0, .int .i64 0, .int .i64 0, .int .i64 0, .int .i64 0, .int .i64 0, .int .i64 0] 38, blk g203 #[.int .i64 a183, .int .i64 a184] 3, blk g280 #[.int .i64 24, .int .i64 a185, .int .i64 t277] 3, blk g306 #[.int .i64 t303, .int .i64 (wrap64 (a184 - 8)), .int .i64 (wrap64 ((wrap64 (a184 - 8)) + 1)), .int .i64 t472, .int .i64 t499, .int .i64 t483, .int .i64 0, .int .i64 0] 38, blk g469 #[.int .i64 (wrap64 (a184 - 8)), .int .i64 (wrap64 (a184 - 1))] 3, blk g480 #[.int .i64 a183, .int .i64 (wrap64 (a184 + 1))] 3, blk g490 #[.int .i64 3, .int .i64 t483] 3, blk g496 #[.int .i64 t493, .int .i64 4] 3, blk g604 #[.int .i64 2, .int .i64 (wrap64 ((wrap64 (a184 - 8)) + 1))] 3, blk g609 #[.int .i64 2, .int .i64 t524] 3])⟩ HA531).mono ?_
          rintro e_ w613 ⟨rfl, hS⟩
          have HS_ : Aside0 (Sep (fps []) w [blk g187 #[.int .i64 a183, .int .i64 a184, .int .i64 a185, .int .i64 a186] 32, blk g190 #[.int .i64 0, .int .i64 0, .int .i64 0, .int .i64 0, .int .i64 0, .int .i64 0, .int .i64 0, .int .i64 0] 38, blk g203 #[.int .i64 a183, .int .i64 a184] 3, blk g280 #[.int .i64 24, .int .i64 a185, .int .i64 t277] 3, blk g306 #[.int .i64 t303, .int .i64 (wrap64 (a184 - 8)), .int .i64 (wrap64 ((wrap64 (a184 - 8)) + 1)), .int .i64 t472, .int .i64 t499, .int .i64 t483, .int .i64 0, .int .i64 0] 38, blk g469 #[.int .i64 (wrap64 (a184 - 8)), .int .i64 (wrap64 (a184 - 1))] 3, blk g480 #[.int .i64 a183, .int .i64 (wrap64 (a184 + 1))] 3, blk g490 #[.int .i64 3, .int .i64 t483] 3, blk g496 #[.int .i64 t493, .int .i64 4] 3, blk g604 #[.int .i64 2, .int .i64 (wrap64 ((wrap64 (a184 - 8)) + 1))] 3, blk g609 #[.int .i64 2, .int .i64 t524] 3] w613) := ⟨HS.out.call (l := []) (rest := [blk g187 #[.int .i64 a183, .int .i64 a184, .int .i64 a185, .int .i64 a186] 32, blk g190 #[.int .i64 0, .int .i64 0, .int .i64 0, .int .i64 0, .int .i64 0, .int .i64 0, .int .i64 0, .int .i64 0] 38, blk g203 #[.int .i64 a183, .int .i64 a184] 3, blk g280 #[.int .i64 24, .int .i64 a185, .int .i64 t277] 3, blk g306 #[.int .i64 t303, .int .i64 (wrap64 (a184 - 8)), .int .i64 (wrap64 ((wrap64 (a184 - 8)) + 1)), .int .i64 t472, .int .i64 t499, .int .i64 t483, .int .i64 0, .int .i64 0] 38, blk g469 #[.int .i64 (wrap64 (a184 - 8)), .int .i64 (wrap64 (a184 - 1))] 3, blk g480 #[.int .i64 a183, .int .i64 (wrap64 (a184 + 1))] 3, blk g490 #[.int .i64 3, .int .i64 t483] 3, blk g496 #[.int .i64 t493, .int .i64 4] 3, blk g604 #[.int .i64 2, .int .i64 (wrap64 ((wrap64 (a184 - 8)) + 1))] 3, blk g609 #[.int .i64 2, .int .i64 t524] 3]) hS⟩
          clear HS hS
          have HS := HS_
          clear HS_
          refine ⟨_, rfl, ?_⟩
          refine hK.out _ _ (⟨blk_cellv (HS.out.at4) 4 rfl, blk_cellv (HS.out.at0) 3 rfl, blk_cellv (HS.out.at4) 2 rfl⟩) (fun hHeld => ?_)
          clear hK K
          refine norm_ (a' := ?_) ?_ ?_
          rotate_left
          · show Act.put _ (some 59) _ = _
            simp only [Act.put, List.setIfInBounds_toArray, List.set_cons_zero, List.set_cons_succ, i64_w, i32_w]
            rfl
          refine one_ (i := 10) (N := some 63) #[true, true, true, true, true, true, true, true, true, true, true, false, false, false, false] rfl rfl (by kernel_rfl) (by decide) (fun K hK => ?_)
          refine goes_ Try.func42 (by kernel_rfl) rfl #[.slice (some ⟨g604, 0, none⟩) 2 2] (by rfl) rfl rfl (by (try simp only [List.map_toArray, List.map_cons, List.map_nil]); first | done | rfl) ?_
          refine (ratio_Mul.calls _ [2, wrap64 ((wrap64 (a184 - 8)) + 1)] (some ⟨g604, 0, none⟩) 2 t536 _ ⟨C_of_blk (xs := [2, wrap64 ((wrap64 (a184 - 8)) + 1)]) (HS.out.nth 9 rfl) (by simp)⟩ ⟨HS.out.begin (l := []) (rest := [blk g187 #[.int .i64 a183, .int .i64 a184, .int .i64 a185, .int .i64 a186] 32, blk g190 #[.int .i64 0, .int .i64 0, .int .i64 0, .int .i64 0, .int .i64 0, .int .i64 0, .int .i64 0, .int .i64 0] 38, blk g203 #[.int .i64 a183, .int .i64 a184] 3, blk g280 #[.int .i64 24, .int .i64 a185, .int .i64 t277] 3, blk g306 #[.int .i64 t303, .int .i64 (wrap64 (a184 - 8)), .int .i64 (wrap64 ((wrap64 (a184 - 8)) + 1)), .int .i64 t472, .int .i64 t499, .int .i64 t483, .int .i64 0, .int .i64 0] 38, blk g469 #[.int .i64 (wrap64 (a184 - 8)), .int .i64 (wrap64 (a184 - 1))] 3, blk g480 #[.int .i64 a183, .int .i64 (wrap64 (a184 + 1))] 3, blk g490 #[.int .i64 3, .int .i64 t483] 3, blk g496 #[.int .i64 t493, .int .i64 4] 3, blk g604 #[.int .i64 2, .int .i64 (wrap64 ((wrap64 (a184 - 8)) + 1))] 3, blk g609 #[.int .i64 2, .int .i64 t524] 3])⟩ HA537).mono ?_
          rintro e_ w615 ⟨rfl, hS⟩
          have HS_ : Aside0 (Sep (fps []) w [blk g187 #[.int .i64 a183, .int .i64 a184, .int .i64 a185, .int .i64 a186] 32, blk g190 #[.int .i64 0, .int .i64 0, .int .i64 0, .int .i64 0, .int .i64 0, .int .i64 0, .int .i64 0, .int .i64 0] 38, blk g203 #[.int .i64 a183, .int .i64 a184] 3, blk g280 #[.int .i64 24, .int .i64 a185, .int .i64 t277] 3, blk g306 #[.int .i64 t303, .int .i64 (wrap64 (a184 - 8)), .int .i64 (wrap64 ((wrap64 (a184 - 8)) + 1)), .int .i64 t472, .int .i64 t499, .int .i64 t483, .int .i64 0, .int .i64 0] 38, blk g469 #[.int .i64 (wrap64 (a184 - 8)), .int .i64 (wrap64 (a184 - 1))] 3, blk g480 #[.int .i64 a183, .int .i64 (wrap64 (a184 + 1))] 3, blk g490 #[.int .i64 3, .int .i64 t483] 3, blk g496 #[.int .i64 t493, .int .i64 4] 3, blk g604 #[.int .i64 2, .int .i64 (wrap64 ((wrap64 (a184 - 8)) + 1))] 3, blk g609 #[.int .i64 2, .int .i64 t524] 3] w615) := ⟨HS.out.call (l := []) (rest := [blk g187 #[.int .i64 a183, .int .i64 a184, .int .i64 a185, .int .i64 a186] 32, blk g190 #[.int .i64 0, .int .i64 0, .int .i64 0, .int .i64 0, .int .i64 0, .int .i64 0, .int .i64 0, .int .i64 0] 38, blk g203 #[.int .i64 a183, .int .i64 a184] 3, blk g280 #[.int .i64 24, .int .i64 a185, .int .i64 t277] 3, blk g306 #[.int .i64 t303, .int .i64 (wrap64 (a184 - 8)), .int .i64 (wrap64 ((wrap64 (a184 - 8)) + 1)), .int .i64 t472, .int .i64 t499, .int .i64 t483, .int .i64 0, .int .i64 0] 38, blk g469 #[.int .i64 (wrap64 (a184 - 8)), .int .i64 (wrap64 (a184 - 1))] 3, blk g480 #[.int .i64 a183, .int .i64 (wrap64 (a184 + 1))] 3, blk g490 #[.int .i64 3, .int .i64 t483] 3, blk g496 #[.int .i64 t493, .int .i64 4] 3, blk g604 #[.int .i64 2, .int .i64 (wrap64 ((wrap64 (a184 - 8)) + 1))] 3, blk g609 #[.int .i64 2, .int .i64 t524] 3]) hS⟩
          clear HS hS
          have HS := HS_
          clear HS_
          refine ⟨_, rfl, ?_⟩
          refine hK.out _ _ (⟨blk_cellv (HS.out.at4) 4 rfl, blk_cellv (HS.out.at0) 3 rfl, blk_cellv (HS.out.at4) 2 rfl⟩) (fun hHeld => ?_)
          clear hK K
          refine norm_ (a' := ?_) ?_ ?_
          rotate_left
          · show Act.put _ (some 63) _ = _
            simp only [Act.put, List.setIfInBounds_toArray, List.set_cons_zero, List.set_cons_succ, i64_w, i32_w]
            rfl
          refine one_ (i := 11) (N := some 64) #[true, true, true, true, true, true, true, true, true, true, true, true, false, false, false] rfl rfl (by kernel_rfl) (by decide) (fun K hK => ?_)
          refine slice_step (n := 2) (by rfl) (N := 64) rfl (cs := #[.int .i64 t530, .int .i64 t536]) (t := 3) ?hr ?_
          case hr => first | (go_simp; done) | (go_simp; rfl)
          intro g616 hg w617 hbox hb
          have HS_ : Aside0 (Sep (fps []) w [blk g187 #[.int .i64 a183, .int .i64 a184, .int .i64 a185, .int .i64 a186] 32, blk g190 #[.int .i64 0, .int .i64 0, .int .i64 0, .int .i64 0, .int .i64 0, .int .i64 0, .int .i64 0, .int .i64 0] 38, blk g203 #[.int .i64 a183, .int .i64 a184] 3, blk g280 #[.int .i64 24, .int .i64 a185, .int .i64 t277] 3, blk g306 #[.int .i64 t303, .int .i64 (wrap64 (a184 - 8)), .int .i64 (wrap64 ((wrap64 (a184 - 8)) + 1)), .int .i64 t472, .int .i64 t499, .int .i64 t483, .int .i64 0, .int .i64 0] 38, blk g469 #[.int .i64 (wrap64 (a184 - 8)), .int .i64 (wrap64 (a184 - 1))] 3, blk g480 #[.int .i64 a183, .int .i64 (wrap64 (a184 + 1))] 3, blk g490 #[.int .i64 3, .int .i64 t483] 3, blk g496 #[.int .i64 t493, .int .i64 4] 3, blk g604 #[.int .i64 2, .int .i64 (wrap64 ((wrap64 (a184 - 8)) + 1))] 3, blk g609 #[.int .i64 2, .int .i64 t524] 3, blk g616 #[.int .i64 t530, .int .i64 t536] 3] w617) := ⟨HS.out.box hg hbox hb⟩
          clear HS hg hbox hb
          have HS := HS_
          clear HS_
          refine hK.out _ _ (⟨blk_cellv (HS.out.at4) 4 rfl, blk_cellv (HS.out.at0) 3 rfl, blk_cellv (HS.out.at4) 2 rfl⟩) (fun hHeld => ?_)
          clear hK K
          refine norm_ (a' := ?_) ?_ ?_
          rotate_left
          · show Act.put _ (some 64) _ = _
            simp only [Act.put, List.setIfInBounds_toArray, List.set_cons_zero, List.set_cons_succ, i64_w, i32_w]
            rfl
          refine one_ (i := 12) (N := some 65) #[true, true, true, true, true, true, true, true, true, true, true, true, true, false, false] rfl rfl (by kernel_rfl) (by decide) (fun K hK => ?_)
          refine goes_ Try.func41 (by kernel_rfl) rfl #[.slice (some ⟨g616, 0, none⟩) 2 2] (by rfl) rfl rfl (by (try simp only [List.map_toArray, List.map_cons, List.map_nil]); first | done | rfl) ?_
          refine (ratio_Add.calls _ [t530, t536] (some ⟨g616, 0, none⟩) 2 t542 _ ⟨C_of_blk (xs := [t530, t536]) (HS.out.nth 11 rfl) (by simp)⟩ ⟨HS.out.begin (l := []) (rest := [blk g187 #[.int .i64 a183, .int .i64 a184, .int .i64 a185, .int .i64 a186] 32, blk g190 #[.int .i64 0, .int .i64 0, .int .i64 0, .int .i64 0, .int .i64 0, .int .i64 0, .int .i64 0, .int .i64 0] 38, blk g203 #[.int .i64 a183, .int .i64 a184] 3, blk g280 #[.int .i64 24, .int .i64 a185, .int .i64 t277] 3, blk g306 #[.int .i64 t303, .int .i64 (wrap64 (a184 - 8)), .int .i64 (wrap64 ((wrap64 (a184 - 8)) + 1)), .int .i64 t472, .int .i64 t499, .int .i64 t483, .int .i64 0, .int .i64 0] 38, blk g469 #[.int .i64 (wrap64 (a184 - 8)), .int .i64 (wrap64 (a184 - 1))] 3, blk g480 #[.int .i64 a183, .int .i64 (wrap64 (a184 + 1))] 3, blk g490 #[.int .i64 3, .int .i64 t483] 3, blk g496 #[.int .i64 t493, .int .i64 4] 3, blk g604 #[.int .i64 2, .int .i64 (wrap64 ((wrap64 (a184 - 8)) + 1))] 3, blk g609 #[.int .i64 2, .int .i64 t524] 3, blk g616 #[.int .i64 t530, .int .i64 t536] 3])⟩ HA543).mono ?_
          rintro e_ w620 ⟨rfl, hS⟩
          have HS_ : Aside0 (Sep (fps []) w [blk g187 #[.int .i64 a183, .int .i64 a184, .int .i64 a185, .int .i64 a186] 32, blk g190 #[.int .i64 0, .int .i64 0, .int .i64 0, .int .i64 0, .int .i64 0, .int .i64 0, .int .i64 0, .int .i64 0] 38, blk g203 #[.int .i64 a183, .int .i64 a184] 3, blk g280 #[.int .i64 24, .int .i64 a185, .int .i64 t277] 3, blk g306 #[.int .i64 t303, .int .i64 (wrap64 (a184 - 8)), .int .i64 (wrap64 ((wrap64 (a184 - 8)) + 1)), .int .i64 t472, .int .i64 t499, .int .i64 t483, .int .i64 0, .int .i64 0] 38, blk g469 #[.int .i64 (wrap64 (a184 - 8)), .int .i64 (wrap64 (a184 - 1))] 3, blk g480 #[.int .i64 a183, .int .i64 (wrap64 (a184 + 1))] 3, blk g490 #[.int .i64 3, .int .i64 t483] 3, blk g496 #[.int .i64 t493, .int .i64 4] 3, blk g604 #[.int .i64 2, .int .i64 (wrap64 ((wrap64 (a184 - 8)) + 1))] 3, blk g609 #[.int .i64 2, .int .i64 t524] 3, blk g616 #[.int .i64 t530, .int .i64 t536] 3] w620) := ⟨HS.out.call (l := []) (rest := [blk g187 #[.int .i64 a183, .int .i64 a184, .int .i64 a185, .int .i64 a186] 32, blk g190 #[.int .i64 0, .int .i64 0, .int .i64 0, .int .i64 0, .int .i64 0, .int .i64 0, .int .i64 0, .int .i64 0] 38, blk g203 #[.int .i64 a183, .int .i64 a184] 3, blk g280 #[.int .i64 24, .int .i64 a185, .int .i64 t277] 3, blk g306 #[.int .i64 t303, .int .i64 (wrap64 (a184 - 8)), .int .i64 (wrap64 ((wrap64 (a184 - 8)) + 1)), .int .i64 t472, .int .i64 t499, .int .i64 t483, .int .i64 0, .int .i64 0] 38, blk g469 #[.int .i64 (wrap64 (a184 - 8)), .int .i64 (wrap64 (a184 - 1))] 3, blk g480 #[.int .i64 a183, .int .i64 (wrap64 (a184 + 1))] 3, blk g490 #[.int .i64 3, .int .i64 t483] 3, blk g496 #[.int .i64 t493, .int .i64 4] 3, blk g604 #[.int .i64 2, .int .i64 (wrap64 ((wrap64 (a184 - 8)) + 1))] 3, blk g609 #[.int .i64 2, .int .i64 t524] 3, blk g616 #[.int .i64 t530, .int .i64 t536] 3]) hS⟩
          clear HS hS
          have HS := HS_
          clear HS_
          refine ⟨_, rfl, ?_⟩
          refine hK.out _ _ (⟨blk_cellv (HS.out.at4) 4 rfl, blk_cellv (HS.out.at0) 3 rfl, blk_cellv (HS.out.at4) 2 rfl⟩) (fun hHeld => ?_)
          clear hK K
          refine norm_ (a' := ?_) ?_ ?_
          rotate_left
          · show Act.put _ (some 65) _ = _
            simp only [Act.put, List.setIfInBounds_toArray, List.set_cons_zero, List.set_cons_succ, i64_w, i32_w]
            rfl
          refine pure_ (i := 13) (N := some 66) (v := ?_) (a' := ?_) #[true, true, true, true, true, true, true, true, true, true, true, true, true, true, false] rfl rfl (by kernel_rfl) (fun _ _ _ h => h) (Or.inl ⟨by rfl, ?_⟩) ?_ ?_
          rotate_left
          · intro w'
            go_simp
            with_reducible rfl
          rotate_left
          · simp only [Act.put, List.setIfInBounds_toArray, List.set_cons_zero, List.set_cons_succ, i64_w, i32_w]
            rfl
          refine one_ (i := 14) (N := none) #[true, true, true, true, true, true, true, true, true, true, true, true, true, true, true] rfl rfl (by kernel_rfl) (by decide) (fun K hK => ?_)
          have hc622 := blk_cellv (v := .int .i64 0) (HS.out.at4) 6 rfl
          have hz623 := blk_fz (HS.out.at4) 6
          refine store_step (w1 := (World.setCell w620 ⟨g306, 6, none⟩ (.int .i64 t542))) (by rfl) rfl ?hr ?_
          case hr => first | (go_simp; done) | (go_simp; rfl)
          clear hc622 hz623
          intro w621 hst
          have hq0 : Sep (fps []) w [blk g187 #[.int .i64 a183, .int .i64 a184, .int .i64 a185, .int .i64 a186] 32, blk g190 #[.int .i64 0, .int .i64 0, .int .i64 0, .int .i64 0, .int .i64 0, .int .i64 0, .int .i64 0, .int .i64 0] 38, blk g203 #[.int .i64 a183, .int .i64 a184] 3, blk g280 #[.int .i64 24, .int .i64 a185, .int .i64 t277] 3, blk g306 #[.int .i64 t303, .int .i64 (wrap64 (a184 - 8)), .int .i64 (wrap64 ((wrap64 (a184 - 8)) + 1)), .int .i64 t472, .int .i64 t499, .int .i64 t483, .int .i64 t542, .int .i64 0] 38, blk g469 #[.int .i64 (wrap64 (a184 - 8)), .int .i64 (wrap64 (a184 - 1))] 3, blk g480 #[.int .i64 a183, .int .i64 (wrap64 (a184 + 1))] 3, blk g490 #[.int .i64 3, .int .i64 t483] 3, blk g496 #[.int .i64 t493, .int .i64 4] 3, blk g604 #[.int .i64 2, .int .i64 (wrap64 ((wrap64 (a184 - 8)) + 1))] 3, blk g609 #[.int .i64 2, .int .i64 t524] 3, blk g616 #[.int .i64 t530, .int .i64 t536] 3] (World.setCell w620 ⟨g306, 6, none⟩ (.int .i64 t542)) := (HS.out).set1 (l1 := [blk g187 #[.int .i64 a183, .int .i64 a184, .int .i64 a185, .int .i64 a186] 32, blk g190 #[.int .i64 0, .int .i64 0, .int .i64 0, .int .i64 0, .int .i64 0, .int .i64 0, .int .i64 0, .int .i64 0] 38, blk g203 #[.int .i64 a183, .int .i64 a184] 3, blk g280 #[.int .i64 24, .int .i64 a185, .int .i64 t277] 3]) (l2 := [blk g469 #[.int .i64 (wrap64 (a184 - 8)), .int .i64 (wrap64 (a184 - 1))] 3, blk g480 #[.int .i64 a183, .int .i64 (wrap64 (a184 + 1))] 3, blk g490 #[.int .i64 3, .int .i64 t483] 3, blk g496 #[.int .i64 t493, .int .i64 4] 3, blk g604 #[.int .i64 2, .int .i64 (wrap64 ((wrap64 (a184 - 8)) + 1))] 3, blk g609 #[.int .i64 2, .int .i64 t524] 3, blk g616 #[.int .i64 t530, .int .i64 t536] 3]) 6 (.int .i64 t542)
          have HS_ : Aside0 (Sep (fps []) w [blk g187 #[.int .i64 a183, .int .i64 a184, .int .i64 a185, .int .i64 a186] 32, blk g190 #[.int .i64 0, .int .i64 0, .int .i64 0, .int .i64 0, .int .i64 0, .int .i64 0, .int .i64 0, .int .i64 0] 38, blk g203 #[.int .i64 a183, .int .i64 a184] 3, blk g280 #[.int .i64 24, .int .i64 a185, .int .i64 t277] 3, blk g306 #[.int .i64 t303, .int .i64 (wrap64 (a184 - 8)), .int .i64 (wrap64 ((wrap64 (a184 - 8)) + 1)), .int .i64 t472, .int .i64 t499, .int .i64 t483, .int .i64 t542, .int .i64 0] 38, blk g469 #[.int .i64 (wrap64 (a184 - 8)), .int .i64 (wrap64 (a184 - 1))] 3, blk g480 #[.int .i64 a183, .int .i64 (wrap64 (a184 + 1))] 3, blk g490 #[.int .i64 3, .int .i64 t483] 3, blk g496 #[.int .i64 t493, .int .i64 4] 3, blk g604 #[.int .i64 2, .int .i64 (wrap64 ((wrap64 (a184 - 8)) + 1))] 3, blk g609 #[.int .i64 2, .int .i64 t524] 3, blk g616 #[.int .i64 t530, .int .i64 t536] 3] w621) := ⟨by rw [hst]; exact hq0⟩
          clear hq0
          clear HS hst
          have HS := HS_
          clear HS_
          refine hK.out _ _ (⟨blk_cellv (HS.out.at4) 4 rfl, blk_cellv (HS.out.at0) 3 rfl, blk_cellv (HS.out.at4) 2 rfl⟩) (fun hHeld => ?_)
          clear hK K
          refine done_ (by kernel_rfl) ?_
          go_wp2_with fail
          go_meet
          case rel => exact ⟨g609, g604, g616, ⟨((((((((((((HS.out).front 11 (by simp)).front 10 (by simp)).front 11 (by simp)).front 11 (by simp)).front 11 (by simp)).front 11 (by simp)).front 11 (by simp)).front 11 (by simp)).front 11 (by simp)).front 11 (by simp)).front 11 (by simp)).front 11 (by simp)⟩⟩
      case rest =>
        clear HS
        obtain ⟨g527, g533, g539, HS⟩ := hcut
        obtain ⟨w548, rfl⟩ : ∃ x : World, x = wc := ⟨_, rfl⟩
        go_wp2_with fail
        refine start_ (n := 15) (S := (fun w' => w'.cell? ⟨g306, 4, none⟩ = some (.int .i64 t499) ∧ w'.cell? ⟨g306, 5, none⟩ = some (.int .i64 t483) ∧ w'.cell? ⟨g187, 3, none⟩ = some (.int .i64 a186))) (ds := []) #[false, false, false, false, false, false, false, false, false, false, false, false, false, false, false] (by kernel_rfl) rfl rfl (⟨blk_cellv ((HS.out.drew).at4) 4 rfl, blk_cellv ((HS.out.drew).at4) 5 rfl, blk_cellv ((HS.out.drew).at0) 3 rfl⟩) (fun hHeld => ?_)
        have HS_ := Aside0.mk HS.out.drew
        clear HS
        generalize World.drew _ = w625 at HS_ hHeld ⊢
        have HS := HS_
        clear HS_
        refine pure_ (i := 0) (N := some 67) (v := ?_) (a' := ?_) #[true, false, false, false, false, false, false, false, false, false, false, false, false, false, false] rfl rfl (by kernel_rfl) (fun _ _ _ h => h) (Or.inl ⟨by rfl, ?_⟩) ?_ ?_
        rotate_left
        · intro w'
          go_simp
          with_reducible rfl
        rotate_left
        · simp only [Act.put, List.setIfInBounds_toArray, List.set_cons_zero, List.set_cons_succ, i64_w, i32_w]
          rfl
        refine pure_ (i := 2) (N := some 69) (v := ?_) (a' := ?_) #[true, false, true, false, false, false, false, false, false, false, false, false, false, false, false] rfl rfl (by kernel_rfl) (fun _ _ _ h => h) (Or.inl ⟨by rfl, ?_⟩) ?_ ?_
        rotate_left
        · intro w'
          go_simp
          with_reducible rfl
        rotate_left
        · simp only [Act.put, List.setIfInBounds_toArray, List.set_cons_zero, List.set_cons_succ, i64_w, i32_w]
          rfl
        refine pure_ (i := 4) (N := some 71) (v := ?_) (a' := ?_) #[true, false, true, false, true, false, false, false, false, false, false, false, false, false, false] rfl rfl (by kernel_rfl) (fun _ _ _ h => h) (Or.inl ⟨by rfl, ?_⟩) ?_ ?_
        rotate_left
        · intro w'
          go_simp
          with_reducible rfl
        rotate_left
        · simp only [Act.put, List.setIfInBounds_toArray, List.set_cons_zero, List.set_cons_succ, i64_w, i32_w]
          rfl
        refine pure_ (i := 8) (N := some 75) (v := ?_) (a' := ?_) #[true, false, true, false, true, false, false, false, true, false, false, false, false, false, false] rfl rfl (by kernel_rfl) (fun _ _ _ h => h) (Or.inl ⟨by rfl, ?_⟩) ?_ ?_
        rotate_left
        · intro w'
          go_simp
          with_reducible rfl
        rotate_left
        · simp only [Act.put, List.setIfInBounds_toArray, List.set_cons_zero, List.set_cons_succ, i64_w, i32_w]
          rfl
        refine take_ (i := 1) (N := some 68) (v := ?_) (a' := ?_) #[true, true, true, false, true, false, false, false, true, false, false, false, false, false, false] rfl rfl (by kernel_rfl) (fun _ _ _ h => h) (Or.inl ⟨by rfl, ?_⟩) hHeld ?_ ?_
        rotate_left
        · rintro w' hS'
          obtain ⟨s0, s1, s2⟩ := hS'
          go_simp
          with_reducible rfl
        rotate_left
        · simp only [Act.put, List.setIfInBounds_toArray, List.set_cons_zero, List.set_cons_succ, i64_w, i32_w]
          rfl
        refine take_ (i := 3) (N := some 70) (v := ?_) (a' := ?_) #[true, true, true, true, true, false, false, false, true, false, false, false, false, false, false] rfl rfl (by kernel_rfl) (fun _ _ _ h => h) (Or.inl ⟨by rfl, ?_⟩) hHeld ?_ ?_
        rotate_left
        · rintro w' hS'
          obtain ⟨s0, s1, s2⟩ := hS'
          go_simp
          with_reducible rfl
        rotate_left
        · simp only [Act.put, List.setIfInBounds_toArray, List.set_cons_zero, List.set_cons_succ, i64_w, i32_w]
          rfl
        refine take_ (i := 5) (N := some 72) (v := ?_) (a' := ?_) #[true, true, true, true, true, true, false, false, true, false, false, false, false, false, false] rfl rfl (by kernel_rfl) (fun _ _ _ h => h) (Or.inl ⟨by rfl, ?_⟩) hHeld ?_ ?_
        rotate_left
        · rintro w' hS'
          obtain ⟨s0, s1, s2⟩ := hS'
          go_simp
          with_reducible rfl
        rotate_left
        · simp only [Act.put, List.setIfInBounds_toArray, List.set_cons_zero, List.set_cons_succ, i64_w, i32_w]
          rfl
        refine take_ (i := 9) (N := some 76) (v := ?_) (a' := ?_) #[true, true, true, true, true, true, false, false, true, true, false, false, false, false, false] rfl rfl (by kernel_rfl) (fun _ _ _ h => h) (Or.inl ⟨by rfl, ?_⟩) hHeld ?_ ?_
        rotate_left
        · rintro w' hS'
          obtain ⟨s0, s1, s2⟩ := hS'
          go_simp
          with_reducible rfl
        rotate_left
        · simp only [Act.put, List.setIfInBounds_toArray, List.set_cons_zero, List.set_cons_succ, i64_w, i32_w]
          rfl
        refine one_ (i := 6) (N := some 73) #[true, true, true, true, true, true, true, false, true, true, false, false, false, false, false] rfl rfl (by kernel_rfl) (by decide) (fun K hK => ?_)
        refine slice_step (n := 3) (by rfl) (N := 73) rfl (cs := #[.int .i64 t499, .int .i64 t499, .int .i64 t483]) (t := 3) ?hr ?_
        case hr => first | (go_simp; done) | (go_simp; rfl)
        intro g626 hg w627 hbox hb
        have HS_ : Aside0 (Sep (fps []) w [blk g187 #[.int .i64 a183, .int .i64 a184, .int .i64 a185, .int .i64 a186] 32, blk g190 #[.int .i64 0, .int .i64 0, .int .i64 0, .int .i64 0, .int .i64 0, .int .i64 0, .int .i64 0, .int .i64 0] 38, blk g203 #[.int .i64 a183, .int .i64 a184] 3, blk g280 #[.int .i64 24, .int .i64 a185, .int .i64 t277] 3, blk g306 #[.int .i64 t303, .int .i64 (wrap64 (a184 - 8)), .int .i64 (wrap64 ((wrap64 (a184 - 8)) + 1)), .int .i64 t472, .int .i64 t499, .int .i64 t483, .int .i64 t542, .int .i64 0] 38, blk g469 #[.int .i64 (wrap64 (a184 - 8)), .int .i64 (wrap64 (a184 - 1))] 3, blk g480 #[.int .i64 a183, .int .i64 (wrap64 (a184 + 1))] 3, blk g490 #[.int .i64 3, .int .i64 t483] 3, blk g496 #[.int .i64 t493, .int .i64 4] 3, blk g527 #[.int .i64 2, .int .i64 t524] 3, blk g533 #[.int .i64 2, .int .i64 (wrap64 ((wrap64 (a184 - 8)) + 1))] 3, blk g539 #[.int .i64 t530, .int .i64 t536] 3, blk g626 #[.int .i64 t499, .int .i64 t499, .int .i64 t483] 3] w627) := ⟨HS.out.box hg hbox hb⟩
        clear HS hg hbox hb
        have HS := HS_
        clear HS_
        refine hK.out _ _ (⟨blk_cellv (HS.out.at4) 4 rfl, blk_cellv (HS.out.at4) 5 rfl, blk_cellv (HS.out.at0) 3 rfl⟩) (fun hHeld => ?_)
        clear hK K
        refine norm_ (a' := ?_) ?_ ?_
        rotate_left
        · show Act.put _ (some 73) _ = _
          simp only [Act.put, List.setIfInBounds_toArray, List.set_cons_zero, List.set_cons_succ, i64_w, i32_w]
          rfl
        refine one_ (i := 7) (N := some 74) #[true, true, true, true, true, true, true, true, true, true, false, false, false, false, false] rfl rfl (by kernel_rfl) (by decide) (fun K hK => ?_)
        obtain ⟨t629, HA630, H⟩ := bind_some H
        refine goes_ Try.func41 (by kernel_rfl) rfl #[.slice (some ⟨g626, 0, none⟩) 3 3] (by rfl) rfl rfl (by (try simp only [List.map_toArray, List.map_cons, List.map_nil]); first | done | rfl) ?_
        refine (ratio_Add.calls _ [t499, t499, t483] (some ⟨g626, 0, none⟩) 3 t629 _ ⟨C_of_blk (xs := [t499, t499, t483]) (HS.out.nth 12 rfl) (by simp)⟩ ⟨HS.out.begin (l := []) (rest := [blk g187 #[.int .i64 a183, .int .i64 a184, .int .i64 a185, .int .i64 a186] 32, blk g190 #[.int .i64 0, .int .i64 0, .int .i64 0, .int .i64 0, .int .i64 0, .int .i64 0, .int .i64 0, .int .i64 0] 38, blk g203 #[.int .i64 a183, .int .i64 a184] 3, blk g280 #[.int .i64 24, .int .i64 a185, .int .i64 t277] 3, blk g306 #[.int .i64 t303, .int .i64 (wrap64 (a184 - 8)), .int .i64 (wrap64 ((wrap64 (a184 - 8)) + 1)), .int .i64 t472, .int .i64 t499, .int .i64 t483, .int .i64 t542, .int .i64 0] 38, blk g469 #[.int .i64 (wrap64 (a184 - 8)), .int .i64 (wrap64 (a184 - 1))] 3, blk g480 #[.int .i64 a183, .int .i64 (wrap64 (a184 + 1))] 3, blk g490 #[.int .i64 3, .int .i64 t483] 3, blk g496 #[.int .i64 t493, .int .i64 4] 3, blk g527 #[.int .i64 2, .int .i64 t524] 3, blk g533 #[.int .i64 2, .int .i64 (wrap64 ((wrap64 (a184 - 8)) + 1))] 3, blk g539 #[.int .i64 t530, .int .i64 t536] 3, blk g626 #[.int .i64 t499, .int .i64 t499, .int .i64 t483] 3])⟩ HA630).mono ?_
        rintro e_ w631 ⟨rfl, hS⟩
        have HS_ : Aside0 (Sep (fps []) w [blk g187 #[.int .i64 a183, .int .i64 a184, .int .i64 a185, .int .i64 a186] 32, blk g190 #[.int .i64 0, .int .i64 0, .int .i64 0, .int .i64 0, .int .i64 0, .int .i64 0, .int .i64 0, .int .i64 0] 38, blk g203 #[.int .i64 a183, .int .i64 a184] 3, blk g280 #[.int .i64 24, .int .i64 a185, .int .i64 t277] 3, blk g306 #[.int .i64 t303, .int .i64 (wrap64 (a184 - 8)), .int .i64 (wrap64 ((wrap64 (a184 - 8)) + 1)), .int .i64 t472, .int .i64 t499, .int .i64 t483, .int .i64 t542, .int .i64 0] 38, blk g469 #[.int .i64 (wrap64 (a184 - 8)), .int .i64 (wrap64 (a184 - 1))] 3, blk g480 #[.int .i64 a183, .int .i64 (wrap64 (a184 + 1))] 3, blk g490 #[.int .i64 3, .int .i64 t483] 3, blk g496 #[.int .i64 t493, .int .i64 4] 3, blk g527 #[.int .i64 2, .int .i64 t524] 3, blk g533 #[.int .i64 2, .int .i64 (wrap64 ((wrap64 (a184 - 8)) + 1))] 3, blk g539 #[.int .i64 t530, .int .i64 t536] 3, blk g626 #[.int .i64 t499, .int .i64 t499, .int .i64 t483] 3] w631) := ⟨HS.out.call (l := []) (rest := [blk g187 #[.int .i64 a183, .int .i64 a184, .int .i64 a185, .int .i64 a186] 32, blk g190 #[.int .i64 0, .int .i64 0, .int .i64 0, .int .i64 0, .int .i64 0, .int .i64 0, .int .i64 0, .int .i64 0] 38, blk g203 #[.int .i64 a183, .int .i64 a184] 3, blk g280 #[.int .i64 24, .int .i64 a185, .int .i64 t277] 3, blk g306 #[.int .i64 t303, .int .i64 (wrap64 (a184 - 8)), .int .i64 (wrap64 ((wrap64 (a184 - 8)) + 1)), .int .i64 t472, .int .i64 t499, .int .i64 t483, .int .i64 t542, .int .i64 0] 38, blk g469 #[.int .i64 (wrap64 (a184 - 8)), .int .i64 (wrap64 (a184 - 1))] 3, blk g480 #[.int .i64 a183, .int .i64 (wrap64 (a184 + 1))] 3, blk g490 #[.int .i64 3, .int .i64 t483] 3, blk g496 #[.int .i64 t493, .int .i64 4] 3, blk g527 #[.int .i64 2, .int .i64 t524] 3, blk g533 #[.int .i64 2, .int .i64 (wrap64 ((wrap64 (a184 - 8)) + 1))] 3, blk g539 #[.int .i64 t530, .int .i64 t536] 3, blk g626 #[.int .i64 t499, .int .i64 t499, .int .i64 t483] 3]) hS⟩
        clear HS hS
        have HS := HS_
        clear HS_
        refine ⟨_, rfl, ?_⟩
        refine hK.out _ _ (⟨blk_cellv (HS.out.at4) 4 rfl, blk_cellv (HS.out.at4) 5 rfl, blk_cellv (HS.out.at0) 3 rfl⟩) (fun hHeld => ?_)
        clear hK K
        refine norm_ (a' := ?_) ?_ ?_
        rotate_left
        · show Act.put _ (some 74) _ = _
          simp only [Act.put, List.setIfInBounds_toArray, List.set_cons_zero, List.set_cons_succ, i64_w, i32_w]
          rfl
        refine one_ (i := 10) (N := some 77) #[true, true, true, true, true, true, true, true, true, true, true, false, false, false, false] rfl rfl (by kernel_rfl) (by decide) (fun K hK => ?_)
        obtain ⟨t632, HA633, H⟩ := bind_some H
        refine goes_ Try.func45 (by kernel_rfl) rfl #[.int .i64 t629, .int .i64 a186] (by rfl) rfl rfl (by (try simp only [List.map_toArray, List.map_cons, List.map_nil]); first | done | rfl) ?_
        refine (ratio_Up.calls t629 a186 t632 _ ⟨HS.out.begin (l := []) (rest := [blk g187 #[.int .i64 a183, .int .i64 a184, .int .i64 a185, .int .i64 a186] 32, blk g190 #[.int .i64 0, .int .i64 0, .int .i64 0, .int .i64 0, .int .i64 0, .int .i64 0, .int .i64 0, .int .i64 0] 38, blk g203 #[.int .i64 a183, .int .i64 a184] 3, blk g280 #[.int .i64 24, .int .i64 a185, .int .i64 t277] 3, blk g306 #[.int .i64 t303, .int .i64 (wrap64 (a184 - 8)), .int .i64 (wrap64 ((wrap64 (a184 - 8)) + 1)), .int .i64 t472, .int .i64 t499, .int .i64 t483, .int .i64 t542, .int .i64 0] 38, blk g469 #[.int .i64 (wrap64 (a184 - 8)), .int .i64 (wrap64 (a184 - 1))] 3, blk g480 #[.int .i64 a183, .int .i64 (wrap64 (a184 + 1))] 3, blk g490 #[.int .i64 3, .int .i64 t483] 3, blk g496 #[.int .i64 t493, .int .i64 4] 3, blk g527 #[.int .i64 2, .int .i64 t524] 3, blk g533 #[.int .i64 2, .int .i64 (wrap64 ((wrap64 (a184 - 8)) + 1))] 3, blk g539 #[.int .i64 t530, .int .i64 t536] 3, blk g626 #[.int .i64 t499, .int .i64 t499, .int .i64 t483] 3])⟩ HA633).mono ?_
        rintro e_ w634 ⟨rfl, hS⟩
        have HS_ : Aside0 (Sep (fps []) w [blk g187 #[.int .i64 a183, .int .i64 a184, .int .i64 a185, .int .i64 a186] 32, blk g190 #[.int .i64 0, .int .i64 0, .int .i64 0, .int .i64 0, .int .i64 0, .int .i64 0, .int .i64 0, .int .i64 0] 38, blk g203 #[.int .i64 a183, .int .i64 a184] 3, blk g280 #[.int .i64 24, .int .i64 a185, .int .i64 t277] 3, blk g306 #[.int .i64 t303, .int .i64 (wrap64 (a184 - 8)), .int .i64 (wrap64 ((wrap64 (a184 - 8)) + 1)), .int .i64 t472, .int .i64 t499, .int .i64 t483, .int .i64 t542, .int .i64 0] 38, blk g469 #[.int .i64 (wrap64 (a184 - 8)), .int .i64 (wrap64 (a184 - 1))] 3, blk g480 #[.int .i64 a183, .int .i64 (wrap64 (a184 + 1))] 3, blk g490 #[.int .i64 3, .int .i64 t483] 3, blk g496 #[.int .i64 t493, .int .i64 4] 3, blk g527 #[.int .i64 2, .int .i64 t524] 3, blk g533 #[.int .i64 2, .int .i64 (wrap64 ((wrap64 (a184 - 8)) + 1))] 3, blk g539 #[.int .i64 t530, .int .i64 t536] 3, blk g626 #[.int .i64 t499, .int .i64 t499, .int .i64 t483] 3] w634) := ⟨HS.out.call (l := []) (rest := [blk g187 #[.int .i64 a183, .int .i64 a184, .int .i64 a185, .int .i64 a186] 32, blk g190 #[.int .i64 0, .int .i64 0, .int .i64 0, .int .i64 0, .int .i64 0, .int .i64 0, .int .i64 0, .int .i64 0] 38, blk g203 #[.int .i64 a183, .int .i64 a184] 3, blk g280 #[.int .i64 24, .int .i64 a185, .int .i64 t277] 3, blk g306 #[.int .i64 t303, .int .i64 (wrap64 (a184 - 8)), .int .i64 (wrap64 ((wrap64 (a184 - 8)) + 1)), .int .i64 t472, .int .i64 t499, .int .i64 t483, .int .i64 t542, .int .i64 0] 38, blk g469 #[.int .i64 (wrap64 (a184 - 8)), .int .i64 (wrap64 (a184 - 1))] 3, blk g480 #[.int .i64 a183, .int .i64 (wrap64 (a184 + 1))] 3, blk g490 #[.int .i64 3, .int .i64 t483] 3, blk g496 #[.int .i64 t493, .int .i64 4] 3, blk g527 #[.int .i64 2, .int .i64 t524] 3, blk g533 #[.int .i64 2, .int .i64 (wrap64 ((wrap64 (a184 - 8)) + 1))] 3, blk g539 #[.int .i64 t530, .int .i64 t536] 3, blk g626 #[.int .i64 t499, .int .i64 t499, .int .i64 t483] 3]) hS⟩
        clear HS hS
        have HS := HS_
        clear HS_
        refine ⟨_, rfl, ?_⟩
        refine hK.out _ _ (⟨blk_cellv (HS.out.at4) 4 rfl, blk_cellv (HS.out.at4) 5 rfl, blk_cellv (HS.out.at0) 3 rfl⟩) (fun hHeld => ?_)
        clear hK K
        refine norm_ (a' := ?_) ?_ ?_
        rotate_left
        · show Act.put _ (some 77) _ = _
          simp only [Act.put, List.setIfInBounds_toArray, List.set_cons_zero, List.set_cons_succ, i64_w, i32_w]
          rfl
        refine one_ (i := 11) (N := some 78) #[true, true, true, true, true, true, true, true, true, true, true, true, false, false, false] rfl rfl (by kernel_rfl) (by decide) (fun K hK => ?_)
        refine slice_step (n := 2) (by rfl) (N := 78) rfl (cs := #[.int .i64 t632, .int .i64 2]) (t := 3) ?hr ?_
        case hr => first | (go_simp; done) | (go_simp; rfl)
        intro g635 hg w636 hbox hb
        have HS_ : Aside0 (Sep (fps []) w [blk g187 #[.int .i64 a183, .int .i64 a184, .int .i64 a185, .int .i64 a186] 32, blk g190 #[.int .i64 0, .int .i64 0, .int .i64 0, .int .i64 0, .int .i64 0, .int .i64 0, .int .i64 0, .int .i64 0] 38, blk g203 #[.int .i64 a183, .int .i64 a184] 3, blk g280 #[.int .i64 24, .int .i64 a185, .int .i64 t277] 3, blk g306 #[.int .i64 t303, .int .i64 (wrap64 (a184 - 8)), .int .i64 (wrap64 ((wrap64 (a184 - 8)) + 1)), .int .i64 t472, .int .i64 t499, .int .i64 t483, .int .i64 t542, .int .i64 0] 38, blk g469 #[.int .i64 (wrap64 (a184 - 8)), .int .i64 (wrap64 (a184 - 1))] 3, blk g480 #[.int .i64 a183, .int .i64 (wrap64 (a184 + 1))] 3, blk g490 #[.int .i64 3, .int .i64 t483] 3, blk g496 #[.int .i64 t493, .int .i64 4] 3, blk g527 #[.int .i64 2, .int .i64 t524] 3, blk g533 #[.int .i64 2, .int .i64 (wrap64 ((wrap64 (a184 - 8)) + 1))] 3, blk g539 #[.int .i64 t530, .int .i64 t536] 3, blk g626 #[.int .i64 t499, .int .i64 t499, .int .i64 t483] 3, blk g635 #[.int .i64 t632, .int .i64 2] 3] w636) := ⟨HS.out.box hg hbox hb⟩
        clear HS hg hbox hb
        have HS := HS_
        clear HS_
        refine hK.out _ _ (⟨blk_cellv (HS.out.at4) 4 rfl, blk_cellv (HS.out.at4) 5 rfl, blk_cellv (HS.out.at0) 3 rfl⟩) (fun hHeld => ?_)
        clear hK K
        refine norm_ (a' := ?_) ?_ ?_
        rotate_left
        · show Act.put _ (some 78) _ = _
          simp only [Act.put, List.setIfInBounds_toArray, List.set_cons_zero, List.set_cons_succ, i64_w, i32_w]
          rfl
        refine one_ (i := 12) (N := some 79) #[true, true, true, true, true, true, true, true, true, true, true, true, true, false, false] rfl rfl (by kernel_rfl) (by decide) (fun K hK => ?_)
        obtain ⟨t638, HA639, H⟩ := bind_some H
        refine goes_ Try.func41 (by kernel_rfl) rfl #[.slice (some ⟨g635, 0, none⟩) 2 2] (by rfl) rfl rfl (by (try simp only [List.map_toArray, List.map_cons, List.map_nil]); first | done | rfl) ?_
        refine (ratio_Add.calls _ [t632, 2] (some ⟨g635, 0, none⟩) 2 t638 _ ⟨C_of_blk (xs := [t632, 2]) (HS.out.nth 13 rfl) (by simp)⟩ ⟨HS.out.begin (l := []) (rest := [blk g187 #[.int .i64 a183, .int .i64 a184, .int .i64 a185, .int .i64 a186] 32, blk g190 #[.int .i64 0, .int .i64 0, .int .i64 0, .int .i64 0, .int .i64 0, .int .i64 0, .int .i64 0, .int .i64 0] 38, blk g203 #[.int .i64 a183, .int .i64 a184] 3, blk g280 #[.int .i64 24, .int .i64 a185, .int .i64 t277] 3, blk g306 #[.int .i64 t303, .int .i64 (wrap64 (a184 - 8)), .int .i64 (wrap64 ((wrap64 (a184 - 8)) + 1)), .int .i64 t472, .int .i64 t499, .int .i64 t483, .int .i64 t542, .int .i64 0] 38, blk g469 #[.int .i64 (wrap64 (a184 - 8)), .int .i64 (wrap64 (a184 - 1))] 3, blk g480 #[.int .i64 a183, .int .i64 (wrap64 (a184 + 1))] 3, blk g490 #[.int .i64 3, .int .i64 t483] 3, blk g496 #[.int .i64 t493, .int .i64 4] 3, blk g527 #[.int .i64 2, .int .i64 t524] 3, blk g533 #[.int .i64 2, .int .i64 (wrap64 ((wrap64 (a184 - 8)) + 1))] 3, blk g539 #[.int .i64 t530, .int .i64 t536] 3, blk g626 #[.int .i64 t499, .int .i64 t499, .int .i64 t483] 3, blk g635 #[.int .i64 t632, .int .i64 2] 3])⟩ HA639).mono ?_
        rintro e_ w640 ⟨rfl, hS⟩
        have HS_ : Aside0 (Sep (fps []) w [blk g187 #[.int .i64 a183, .int .i64 a184, .int .i64 a185, .int .i64 a186] 32, blk g190 #[.int .i64 0, .int .i64 0, .int .i64 0, .int .i64 0, .int .i64 0, .int .i64 0, .int .i64 0, .int .i64 0] 38, blk g203 #[.int .i64 a183, .int .i64 a184] 3, blk g280 #[.int .i64 24, .int .i64 a185, .int .i64 t277] 3, blk g306 #[.int .i64 t303, .int .i64 (wrap64 (a184 - 8)), .int .i64 (wrap64 ((wrap64 (a184 - 8)) + 1)), .int .i64 t472, .int .i64 t499, .int .i64 t483, .int .i64 t542, .int .i64 0] 38, blk g469 #[.int .i64 (wrap64 (a184 - 8)), .int .i64 (wrap64 (a184 - 1))] 3, blk g480 #[.int .i64 a183, .int .i64 (wrap64 (a184 + 1))] 3, blk g490 #[.int .i64 3, .int .i64 t483] 3, blk g496 #[.int .i64 t493, .int .i64 4] 3, blk g527 #[.int .i64 2, .int .i64 t524] 3, blk g533 #[.int .i64 2, .int .i64 (wrap64 ((wrap64 (a184 - 8)) + 1))] 3, blk g539 #[.int .i64 t530, .int .i64 t536] 3, blk g626 #[.int .i64 t499, .int .i64 t499, .int .i64 t483] 3, blk g635 #[.int .i64 t632, .int .i64 2] 3] w640) := ⟨HS.out.call (l := []) (rest := [blk g187 #[.int .i64 a183, .int .i64 a184, .int .i64 a185, .int .i64 a186] 32, blk g190 #[.int .i64 0, .int .i64 0, .int .i64 0, .int .i64 0, .int .i64 0, .int .i64 0, .int .i64 0, .int .i64 0] 38, blk g203 #[.int .i64 a183, .int .i64 a184] 3, blk g280 #[.int .i64 24, .int .i64 a185, .int .i64 t277] 3, blk g306 #[.int .i64 t303, .int .i64 (wrap64 (a184 - 8)), .int .i64 (wrap64 ((wrap64 (a184 - 8)) + 1)), .int .i64 t472, .int .i64 t499, .int .i64 t483, .int .i64 t542, .int .i64 0] 38, blk g469 #[.int .i64 (wrap64 (a184 - 8)), .int .i64 (wrap64 (a184 - 1))] 3, blk g480 #[.int .i64 a183, .int .i64 (wrap64 (a184 + 1))] 3, blk g490 #[.int .i64 3, .int .i64 t483] 3, blk g496 #[.int .i64 t493, .int .i64 4] 3, blk g527 #[.int .i64 2, .int .i64 t524] 3, blk g533 #[.int .i64 2, .int .i64 (wrap64 ((wrap64 (a184 - 8)) + 1))] 3, blk g539 #[.int .i64 t530, .int .i64 t536] 3, blk g626 #[.int .i64 t499, .int .i64 t499, .int .i64 t483] 3, blk g635 #[.int .i64 t632, .int .i64 2] 3]) hS⟩
        clear HS hS
        have HS := HS_
        clear HS_
        refine ⟨_, rfl, ?_⟩
        refine hK.out _ _ (⟨blk_cellv (HS.out.at4) 4 rfl, blk_cellv (HS.out.at4) 5 rfl, blk_cellv (HS.out.at0) 3 rfl⟩) (fun hHeld => ?_)
        clear hK K
        refine norm_ (a' := ?_) ?_ ?_
        rotate_left
        · show Act.put _ (some 79) _ = _
          simp only [Act.put, List.setIfInBounds_toArray, List.set_cons_zero, List.set_cons_succ, i64_w, i32_w]
          rfl
        refine pure_ (i := 13) (N := some 80) (v := ?_) (a' := ?_) #[true, true, true, true, true, true, true, true, true, true, true, true, true, true, false] rfl rfl (by kernel_rfl) (fun _ _ _ h => h) (Or.inl ⟨by rfl, ?_⟩) ?_ ?_
        rotate_left
        · intro w'
          go_simp
          with_reducible rfl
        rotate_left
        · simp only [Act.put, List.setIfInBounds_toArray, List.set_cons_zero, List.set_cons_succ, i64_w, i32_w]
          rfl
        refine one_ (i := 14) (N := none) #[true, true, true, true, true, true, true, true, true, true, true, true, true, true, true] rfl rfl (by kernel_rfl) (by decide) (fun K hK => ?_)
        have hc642 := blk_cellv (v := .int .i64 0) (HS.out.at4) 7 rfl
        have hz643 := blk_fz (HS.out.at4) 7
        refine store_step (w1 := (World.setCell w640 ⟨g306, 7, none⟩ (.int .i64 t638))) (by rfl) rfl ?hr ?_
        case hr => first | (go_simp; done) | (go_simp; rfl)
        clear hc642 hz643
        intro w641 hst
        have hq0 : Sep (fps []) w [blk g187 #[.int .i64 a183, .int .i64 a184, .int .i64 a185, .int .i64 a186] 32, blk g190 #[.int .i64 0, .int .i64 0, .int .i64 0, .int .i64 0, .int .i64 0, .int .i64 0, .int .i64 0, .int .i64 0] 38, blk g203 #[.int .i64 a183, .int .i64 a184] 3, blk g280 #[.int .i64 24, .int .i64 a185, .int .i64 t277] 3, blk g306 #[.int .i64 t303, .int .i64 (wrap64 (a184 - 8)), .int .i64 (wrap64 ((wrap64 (a184 - 8)) + 1)), .int .i64 t472, .int .i64 t499, .int .i64 t483, .int .i64 t542, .int .i64 t638] 38, blk g469 #[.int .i64 (wrap64 (a184 - 8)), .int .i64 (wrap64 (a184 - 1))] 3, blk g480 #[.int .i64 a183, .int .i64 (wrap64 (a184 + 1))] 3, blk g490 #[.int .i64 3, .int .i64 t483] 3, blk g496 #[.int .i64 t493, .int .i64 4] 3, blk g527 #[.int .i64 2, .int .i64 t524] 3, blk g533 #[.int .i64 2, .int .i64 (wrap64 ((wrap64 (a184 - 8)) + 1))] 3, blk g539 #[.int .i64 t530, .int .i64 t536] 3, blk g626 #[.int .i64 t499, .int .i64 t499, .int .i64 t483] 3, blk g635 #[.int .i64 t632, .int .i64 2] 3] (World.setCell w640 ⟨g306, 7, none⟩ (.int .i64 t638)) := (HS.out).set1 (l1 := [blk g187 #[.int .i64 a183, .int .i64 a184, .int .i64 a185, .int .i64 a186] 32, blk g190 #[.int .i64 0, .int .i64 0, .int .i64 0, .int .i64 0, .int .i64 0, .int .i64 0, .int .i64 0, .int .i64 0] 38, blk g203 #[.int .i64 a183, .int .i64 a184] 3, blk g280 #[.int .i64 24, .int .i64 a185, .int .i64 t277] 3]) (l2 := [blk g469 #[.int .i64 (wrap64 (a184 - 8)), .int .i64 (wrap64 (a184 - 1))] 3, blk g480 #[.int .i64 a183, .int .i64 (wrap64 (a184 + 1))] 3, blk g490 #[.int .i64 3, .int .i64 t483] 3, blk g496 #[.int .i64 t493, .int .i64 4] 3, blk g527 #[.int .i64 2, .int .i64 t524] 3, blk g533 #[.int .i64 2, .int .i64 (wrap64 ((wrap64 (a184 - 8)) + 1))] 3, blk g539 #[.int .i64 t530, .int .i64 t536] 3, blk g626 #[.int .i64 t499, .int .i64 t499, .int .i64 t483] 3, blk g635 #[.int .i64 t632, .int .i64 2] 3]) 7 (.int .i64 t638)
        have HS_ : Aside0 (Sep (fps []) w [blk g187 #[.int .i64 a183, .int .i64 a184, .int .i64 a185, .int .i64 a186] 32, blk g190 #[.int .i64 0, .int .i64 0, .int .i64 0, .int .i64 0, .int .i64 0, .int .i64 0, .int .i64 0, .int .i64 0] 38, blk g203 #[.int .i64 a183, .int .i64 a184] 3, blk g280 #[.int .i64 24, .int .i64 a185, .int .i64 t277] 3, blk g306 #[.int .i64 t303, .int .i64 (wrap64 (a184 - 8)), .int .i64 (wrap64 ((wrap64 (a184 - 8)) + 1)), .int .i64 t472, .int .i64 t499, .int .i64 t483, .int .i64 t542, .int .i64 t638] 38, blk g469 #[.int .i64 (wrap64 (a184 - 8)), .int .i64 (wrap64 (a184 - 1))] 3, blk g480 #[.int .i64 a183, .int .i64 (wrap64 (a184 + 1))] 3, blk g490 #[.int .i64 3, .int .i64 t483] 3, blk g496 #[.int .i64 t493, .int .i64 4] 3, blk g527 #[.int .i64 2, .int .i64 t524] 3, blk g533 #[.int .i64 2, .int .i64 (wrap64 ((wrap64 (a184 - 8)) + 1))] 3, blk g539 #[.int .i64 t530, .int .i64 t536] 3, blk g626 #[.int .i64 t499, .int .i64 t499, .int .i64 t483] 3, blk g635 #[.int .i64 t632, .int .i64 2] 3] w641) := ⟨by rw [hst]; exact hq0⟩
        clear hq0
        clear HS hst
        have HS := HS_
        clear HS_
        refine hK.out _ _ (⟨blk_cellv (HS.out.at4) 4 rfl, blk_cellv (HS.out.at4) 5 rfl, blk_cellv (HS.out.at0) 3 rfl⟩) (fun hHeld => ?_)
        clear hK K
        refine done_ (by kernel_rfl) ?_
        have hc644 : w641.cell? ⟨g306, 0, none⟩ = some (.int .i64 t303) := blk_cellv (HS.out.at4) 0 rfl
        have hc645 : w641.cell? ⟨g306, 1, none⟩ = some (.int .i64 (wrap64 (a184 - 8))) := blk_cellv (HS.out.at4) 1 rfl
        have hc646 : w641.cell? ⟨g306, 2, none⟩ = some (.int .i64 (wrap64 ((wrap64 (a184 - 8)) + 1))) := blk_cellv (HS.out.at4) 2 rfl
        have hc647 : w641.cell? ⟨g306, 3, none⟩ = some (.int .i64 t472) := blk_cellv (HS.out.at4) 3 rfl
        have hc648 : w641.cell? ⟨g306, 4, none⟩ = some (.int .i64 t499) := blk_cellv (HS.out.at4) 4 rfl
        have hc649 : w641.cell? ⟨g306, 5, none⟩ = some (.int .i64 t483) := blk_cellv (HS.out.at4) 5 rfl
        have hc650 : w641.cell? ⟨g306, 6, none⟩ = some (.int .i64 t542) := blk_cellv (HS.out.at4) 6 rfl
        have hc651 : w641.cell? ⟨g306, 7, none⟩ = some (.int .i64 t638) := blk_cellv (HS.out.at4) 7 rfl
        have hc652 : w641.cell? ⟨g190, 0, none⟩ = some (.int .i64 0) := blk_cellv (HS.out.at1) 0 rfl
        have hz653 : w641.frozen? ⟨g190, 0, none⟩ = false := blk_fz (HS.out.at1) 0
        have hc654 : w641.cell? ⟨g190, 1, none⟩ = some (.int .i64 0) := blk_cellv (HS.out.at1) 1 rfl
        have hz655 : w641.frozen? ⟨g190, 1, none⟩ = false := blk_fz (HS.out.at1) 1
        have hc656 : w641.cell? ⟨g190, 2, none⟩ = some (.int .i64 0) := blk_cellv (HS.out.at1) 2 rfl
        have hz657 : w641.frozen? ⟨g190, 2, none⟩ = false := blk_fz (HS.out.at1) 2
        have hc658 : w641.cell? ⟨g190, 3, none⟩ = some (.int .i64 0) := blk_cellv (HS.out.at1) 3 rfl
        have hz659 : w641.frozen? ⟨g190, 3, none⟩ = false := blk_fz (HS.out.at1) 3
        have hc660 : w641.cell? ⟨g190, 4, none⟩ = some (.int .i64 0) := blk_cellv (HS.out.at1) 4 rfl
        have hz661 : w641.frozen? ⟨g190, 4, none⟩ = false := blk_fz (HS.out.at1) 4
        have hc662 : w641.cell? ⟨g190, 5, none⟩ = some (.int .i64 0) := blk_cellv (HS.out.at1) 5 rfl
        have hz663 : w641.frozen? ⟨g190, 5, none⟩ = false := blk_fz (HS.out.at1) 5
        have hc664 : w641.cell? ⟨g190, 6, none⟩ = some (.int .i64 0) := blk_cellv (HS.out.at1) 6 rfl
        have hz665 : w641.frozen? ⟨g190, 6, none⟩ = false := blk_fz (HS.out.at1) 6
        have hc666 : w641.cell? ⟨g190, 7, none⟩ = some (.int .i64 0) := blk_cellv (HS.out.at1) 7 rfl
        have hz667 : w641.frozen? ⟨g190, 7, none⟩ = false := blk_fz (HS.out.at1) 7
        go_wp2_with (first | ((with_reducible refine gate_store (t := 38) (p := 2) rfl ?_); refine store_event (w1 := (World.setCell (World.setCell (World.setCell (World.setCell (World.setCell (World.setCell (World.setCell (World.setCell w641 ⟨g190, 0, none⟩ (.int .i64 t303)) ⟨g190, 1, none⟩ (.int .i64 (wrap64 (a184 - 8)))) ⟨g190, 2, none⟩ (.int .i64 (wrap64 ((wrap64 (a184 - 8)) + 1)))) ⟨g190, 3, none⟩ (.int .i64 t472)) ⟨g190, 4, none⟩ (.int .i64 t499)) ⟨g190, 5, none⟩ (.int .i64 t483)) ⟨g190, 6, none⟩ (.int .i64 t542)) ⟨g190, 7, none⟩ (.int .i64 t638))) rfl (t := 38) (p := 2) rfl rfl ?hr ?_; (case hr => first | (go_simp; done) | (go_simp; rfl)); intro w668 hst; clear hc644 hc645 hc646 hc647 hc648 hc649 hc650 hc651 hc652 hz653 hc654 hz655 hc656 hz657 hc658 hz659 hc660 hz661 hc662 hz663 hc664 hz665 hc666 hz667; have hq0 : Sep (fps []) w [blk g187 #[.int .i64 a183, .int .i64 a184, .int .i64 a185, .int .i64 a186] 32, blk g190 #[.int .i64 t303, .int .i64 0, .int .i64 0, .int .i64 0, .int .i64 0, .int .i64 0, .int .i64 0, .int .i64 0] 38, blk g203 #[.int .i64 a183, .int .i64 a184] 3, blk g280 #[.int .i64 24, .int .i64 a185, .int .i64 t277] 3, blk g306 #[.int .i64 t303, .int .i64 (wrap64 (a184 - 8)), .int .i64 (wrap64 ((wrap64 (a184 - 8)) + 1)), .int .i64 t472, .int .i64 t499, .int .i64 t483, .int .i64 t542, .int .i64 t638] 38, blk g469 #[.int .i64 (wrap64 (a184 - 8)), .int .i64 (wrap64 (a184 - 1))] 3, blk g480 #[.int .i64 a183, .int .i64 (wrap64 (a184 + 1))] 3, blk g490 #[.int .i64 3, .int .i64 t483] 3, blk g496 #[.int .i64 t493, .int .i64 4] 3, blk g527 #[.int .i64 2, .int .i64 t524] 3, blk g533 #[.int .i64 2, .int .i64 (wrap64 ((wrap64 (a184 - 8)) + 1))] 3, blk g539 #[.int .i64 t530, .int .i64 t536] 3, blk g626 #[.int .i64 t499, .int .i64 t499, .int .i64 t483] 3, blk g635 #[.int .i64 t632, .int .i64 2] 3] (World.setCell w641 ⟨g190, 0, none⟩ (.int .i64 t303)) := (HS.out).set1 (l1 := [blk g187 #[.int .i64 a183, .int .i64 a184, .int .i64 a185, .int .i64 a186] 32]) (l2 := [blk g203 #[.int .i64 a183, .int .i64 a184] 3, blk g280 #[.int .i64 24, .int .i64 a185, .int .i64 t277] 3, blk g306 #[.int .i64 t303, .int .i64 (wrap64 (a184 - 8)), .int .i64 (wrap64 ((wrap64 (a184 - 8)) + 1)), .int .i64 t472, .int .i64 t499, .int .i64 t483, .int .i64 t542, .int .i64 t638] 38, blk g469 #[.int .i64 (wrap64 (a184 - 8)), .int .i64 (wrap64 (a184 - 1))] 3, blk g480 #[.int .i64 a183, .int .i64 (wrap64 (a184 + 1))] 3, blk g490 #[.int .i64 3, .int .i64 t483] 3, blk g496 #[.int .i64 t493, .int .i64 4] 3, blk g527 #[.int .i64 2, .int .i64 t524] 3, blk g533 #[.int .i64 2, .int .i64 (wrap64 ((wrap64 (a184 - 8)) + 1))] 3, blk g539 #[.int .i64 t530, .int .i64 t536] 3, blk g626 #[.int .i64 t499, .int .i64 t499, .int .i64 t483] 3, blk g635 #[.int .i64 t632, .int .i64 2] 3]) 0 (.int .i64 t303); have hq1 : Sep (fps []) w [blk g187 #[.int .i64 a183, .int .i64 a184, .int .i64 a185, .int .i64 a186] 32, blk g190 #[.int .i64 t303, .int .i64 (wrap64 (a184 - 8)), .int .i64 0, .int .i64 0, .int .i64 0, .int .i64 0, .int .i64 0, .int .i64 0] 38, blk g203 #[.int .i64 a183, .int .i64 a184] 3, blk g280 #[.int .i64 24, .int .i64 a185, .int .i64 t277] 3, blk g306 #[.int .i64 t303, .int .i64 (wrap64 (a184 - 8)), .int .i64 (wrap64 ((wrap64 (a184 - 8)) + 1)), .int .i64 t472, .int .i64 t499, .int .i64 t483, .int .i64 t542, .int .i64 t638] 38, blk g469 #[.int .i64 (wrap64 (a184 - 8)), .int .i64 (wrap64 (a184 - 1))] 3, blk g480 #[.int .i64 a183, .int .i64 (wrap64 (a184 + 1))] 3, blk g490 #[.int .i64 3, .int .i64 t483] 3, blk g496 #[.int .i64 t493, .int .i64 4] 3, blk g527 #[.int .i64 2, .int .i64 t524] 3, blk g533 #[.int .i64 2, .int .i64 (wrap64 ((wrap64 (a184 - 8)) + 1))] 3, blk g539 #[.int .i64 t530, .int .i64 t536] 3, blk g626 #[.int .i64 t499, .int .i64 t499, .int .i64 t483] 3, blk g635 #[.int .i64 t632, .int .i64 2] 3] (World.setCell (World.setCell w641 ⟨g190, 0, none⟩ (.int .i64 t303)) ⟨g190, 1, none⟩ (.int .i64 (wrap64 (a184 - 8)))) := (hq0).set1 (l1 := [blk g187 #[.int .i64 a183, .int .i64 a184, .int .i64 a185, .int .i64 a186] 32]) (l2 := [blk g203 #[.int .i64 a183, .int .i64 a184] 3, blk g280 #[.int .i64 24, .int .i64 a185, .int .i64 t277] 3, blk g306 #[.int .i64 t303, .int .i64 (wrap64 (a184 - 8)), .int .i64 (wrap64 ((wrap64 (a184 - 8)) + 1)), .int .i64 t472, .int .i64 t499, .int .i64 t483, .int .i64 t542, .int .i64 t638] 38, blk g469 #[.int .i64 (wrap64 (a184 - 8)), .int .i64 (wrap64 (a184 - 1))] 3, blk g480 #[.int .i64 a183, .int .i64 (wrap64 (a184 + 1))] 3, blk g490 #[.int .i64 3, .int .i64 t483] 3, blk g496 #[.int .i64 t493, .int .i64 4] 3, blk g527 #[.int .i64 2, .int .i64 t524] 3, blk g533 #[.int .i64 2, .int .i64 (wrap64 ((wrap64 (a184 - 8)) + 1))] 3, blk g539 #[.int .i64 t530, .int .i64 t536] 3, blk g626 #[.int .i64 t499, .int .i64 t499, .int .i64 t483] 3, blk g635 #[.int .i64 t632, .int .i64 2] 3]) 1 (.int .i64 (wrap64 (a184 - 8))); have hq2 : Sep (fps []) w [blk g187 #[.int .i64 a183, .int .i64 a184, .int .i64 a185, .int .i64 a186] 32, blk g190 #[.int .i64 t303, .int .i64 (wrap64 (a184 - 8)), .int .i64 (wrap64 ((wrap64 (a184 - 8)) + 1)), .int .i64 0, .int .i64 0, .int .i64 0, .int .i64 0, .int .i64 0] 38, blk g203 #[.int .i64 a183, .int .i64 a184] 3, blk g280 #[.int .i64 24, .int .i64 a185, .int .i64 t277] 3, blk g306 #[.int .i64 t303, .int .i64 (wrap64 (a184 - 8)), .int .i64 (wrap64 ((wrap64 (a184 - 8)) + 1)), .int .i64 t472, .int .i64 t499, .int .i64 t483, .int .i64 t542, .int .i64 t638] 38, blk g469 #[.int .i64 (wrap64 (a184 - 8)), .int .i64 (wrap64 (a184 - 1))] 3, blk g480 #[.int .i64 a183, .int .i64 (wrap64 (a184 + 1))] 3, blk g490 #[.int .i64 3, .int .i64 t483] 3, blk g496 #[.int .i64 t493, .int .i64 4] 3, blk g527 #[.int .i64 2, .int .i64 t524] 3, blk g533 #[.int .i64 2, .int .i64 (wrap64 ((wrap64 (a184 - 8)) + 1))] 3, blk g539 #[.int .i64 t530, .int .i64 t536] 3, blk g626 #[.int .i64 t499, .int .i64 t499, .int .i64 t483] 3, blk g635 #[.int .i64 t632, .int .i64 2] 3] (World.setCell (World.setCell (World.setCell w641 ⟨g190, 0, none⟩ (.int .i64 t303)) ⟨g190, 1, none⟩ (.int .i64 (wrap64 (a184 - 8)))) ⟨g190, 2, none⟩ (.int .i64 (wrap64 ((wrap64 (a184 - 8)) + 1)))) := (hq1).set1 (l1 := [blk g187 #[.int .i64 a183, .int .i64 a184, .int .i64 a185, .int .i64 a186] 32]) (l2 := [blk g203 #[.int .i64 a183, .int .i64 a184] 3, blk g280 #[.int .i64 24, .int .i64 a185, .int .i64 t277] 3, blk g306 #[.int .i64 t303, .int .i64 (wrap64 (a184 - 8)), .int .i64 (wrap64 ((wrap64 (a184 - 8)) + 1)), .int .i64 t472, .int .i64 t499, .int .i64 t483, .int .i64 t542, .int .i64 t638] 38, blk g469 #[.int .i64 (wrap64 (a184 - 8)), .int .i64 (wrap64 (a184 - 1))] 3, blk g480 #[.int .i64 a183, .int .i64 (wrap64 (a184 + 1))] 3, blk g490 #[.int .i64 3, .int .i64 t483] 3, blk g496 #[.int .i64 t493, .int .i64 4] 3, blk g527 #[.int .i64 2, .int .i64 t524] 3, blk g533 #[.int .i64 2, .int .i64 (wrap64 ((wrap64 (a184 - 8)) + 1))] 3, blk g539 #[.int .i64 t530, .int .i64 t536] 3, blk g626 #[.int .i64 t499, .int .i64 t499, .int .i64 t483] 3, blk g635 #[.int .i64 t632, .int .i64 2] 3]) 2 (.int .i64 (wrap64 ((wrap64 (a184 - 8)) + 1))); have hq3 : Sep (fps []) w [blk g187 #[.int .i64 a183, .int .i64 a184, .int .i64 a185, .int .i64 a186] 32, blk g190 #[.int .i64 t303, .int .i64 (wrap64 (a184 - 8)), .int .i64 (wrap64 ((wrap64 (a184 - 8)) + 1)), .int .i64 t472, .int .i64 0, .int .i64 0, .int .i64 0, .int .i64 0] 38, blk g203 #[.int .i64 a183, .int .i64 a184] 3, blk g280 #[.int .i64 24, .int .i64 a185, .int .i64 t277] 3, blk g306 #[.int .i64 t303, .int .i64 (wrap64 (a184 - 8)), .int .i64 (wrap64 ((wrap64 (a184 - 8)) + 1)), .int .i64 t472, .int .i64 t499, .int .i64 t483, .int .i64 t542, .int .i64 t638] 38, blk g469 #[.int .i64 (wrap64 (a184 - 8)), .int .i64 (wrap64 (a184 - 1))] 3, blk g480 #[.int .i64 a183, .int .i64 (wrap64 (a184 + 1))] 3, blk g490 #[.int .i64 3, .int .i64 t483] 3, blk g496 #[.int .i64 t493, .int .i64 4] 3, blk g527 #[.int .i64 2, .int .i64 t524] 3, blk g533 #[.int .i64 2, .int .i64 (wrap64 ((wrap64 (a184 - 8)) + 1))] 3, blk g539 #[.int .i64 t530, .int .i64 t536] 3, blk g626 #[.int .i64 t499, .int .i64 t499, .int .i64 t483] 3, blk g635 #[.int .i64 t632, .int .i64 2] 3] (World.setCell (World.setCell (World.setCell (World.setCell w641 ⟨g190, 0, none⟩ (.int .i64 t303)) ⟨g190, 1, none⟩ (.int .i64 (wrap64 (a184 - 8)))) ⟨g190, 2, none⟩ (.int .i64 (wrap64 ((wrap64 (a184 - 8)) + 1)))) ⟨g190, 3, none⟩ (.int .i64 t472)) := (hq2).set1 (l1 := [blk g187 #[.int .i64 a183, .int .i64 a184, .int .i64 a185, .int .i64 a186] 32]) (l2 := [blk g203 #[.int .i64 a183, .int .i64 a184] 3, blk g280 #[.int .i64 24, .int .i64 a185, .int .i64 t277] 3, blk g306 #[.int .i64 t303, .int .i64 (wrap64 (a184 - 8)), .int .i64 (wrap64 ((wrap64 (a184 - 8)) + 1)), .int .i64 t472, .int .i64 t499, .int .i64 t483, .int .i64 t542, .int .i64 t638] 38, blk g469 #[.int .i64 (wrap64 (a184 - 8)), .int .i64 (wrap64 (a184 - 1))] 3, blk g480 #[.int .i64 a183, .int .i64 (wrap64 (a184 + 1))] 3, blk g490 #[.int .i64 3, .int .i64 t483] 3, blk g496 #[.int .i64 t493, .int .i64 4] 3, blk g527 #[.int .i64 2, .int .i64 t524] 3, blk g533 #[.int .i64 2, .int .i64 (wrap64 ((wrap64 (a184 - 8)) + 1))] 3, blk g539 #[.int .i64 t530, .int .i64 t536] 3, blk g626 #[.int .i64 t499, .int .i64 t499, .int .i64 t483] 3, blk g635 #[.int .i64 t632, .int .i64 2] 3]) 3 (.int .i64 t472); have hq4 : Sep (fps []) w [blk g187 #[.int .i64 a183, .int .i64 a184, .int .i64 a185, .int .i64 a186] 32, blk g190 #[.int .i64 t303, .int .i64 (wrap64 (a184 - 8)), .int .i64 (wrap64 ((wrap64 (a184 - 8)) + 1)), .int .i64 t472, .int .i64 t499, .int .i64 0, .int .i64 0, .int .i64 0] 38, blk g203 #[.int .i64 a183, .int .i64 a184] 3, blk g280 #[.int .i64 24, .int .i64 a185, .int .i64 t277] 3, blk g306 #[.int .i64 t303, .int .i64 (wrap64 (a184 - 8)), .int .i64 (wrap64 ((wrap64 (a184 - 8)) + 1)), .int .i64 t472, .int .i64 t499, .int .i64 t483, .int .i64 t542, .int .i64 t638] 38, blk g469 #[.int .i64 (wrap64 (a184 - 8)), .int .i64 (wrap64 (a184 - 1))] 3, blk g480 #[.int .i64 a183, .int .i64 (wrap64 (a184 + 1))] 3, blk g490 #[.int .i64 3, .int .i64 t483] 3, blk g496 #[.int .i64 t493, .int .i64 4] 3, blk g527 #[.int .i64 2, .int .i64 t524] 3, blk g533 #[.int .i64 2, .int .i64 (wrap64 ((wrap64 (a184 - 8)) + 1))] 3, blk g539 #[.int .i64 t530, .int .i64 t536] 3, blk g626 #[.int .i64 t499, .int .i64 t499, .int .i64 t483] 3, blk g635 #[.int .i64 t632, .int .i64 2] 3] (World.setCell (World.setCell (World.setCell (World.setCell (World.setCell w641 ⟨g190, 0, none⟩ (.int .i64 t303)) ⟨g190, 1, none⟩ (.int .i64 (wrap64 (a184 - 8)))) ⟨g190, 2, none⟩ (.int .i64 (wrap64 ((wrap64 (a184 - 8)) + 1)))) ⟨g190, 3, none⟩ (.int .i64 t472)) ⟨g190, 4, none⟩ (.int .i64 t499)) := (hq3).set1 (l1 := [blk g187 #[.int .i64 a183, .int .i64 a184, .int .i64 a185, .int .i64 a186] 32]) (l2 := [blk g203 #[.int .i64 a183, .int .i64 a184] 3, blk g280 #[.int .i64 24, .int .i64 a185, .int .i64 t277] 3, blk g306 #[.int .i64 t303, .int .i64 (wrap64 (a184 - 8)), .int .i64 (wrap64 ((wrap64 (a184 - 8)) + 1)), .int .i64 t472, .int .i64 t499, .int .i64 t483, .int .i64 t542, .int .i64 t638] 38, blk g469 #[.int .i64 (wrap64 (a184 - 8)), .int .i64 (wrap64 (a184 - 1))] 3, blk g480 #[.int .i64 a183, .int .i64 (wrap64 (a184 + 1))] 3, blk g490 #[.int .i64 3, .int .i64 t483] 3, blk g496 #[.int .i64 t493, .int .i64 4] 3, blk g527 #[.int .i64 2, .int .i64 t524] 3, blk g533 #[.int .i64 2, .int .i64 (wrap64 ((wrap64 (a184 - 8)) + 1))] 3, blk g539 #[.int .i64 t530, .int .i64 t536] 3, blk g626 #[.int .i64 t499, .int .i64 t499, .int .i64 t483] 3, blk g635 #[.int .i64 t632, .int .i64 2] 3]) 4 (.int .i64 t499); have hq5 : Sep (fps []) w [blk g187 #[.int .i64 a183, .int .i64 a184, .int .i64 a185, .int .i64 a186] 32, blk g190 #[.int .i64 t303, .int .i64 (wrap64 (a184 - 8)), .int .i64 (wrap64 ((wrap64 (a184 - 8)) + 1)), .int .i64 t472, .int .i64 t499, .int .i64 t483, .int .i64 0, .int .i64 0] 38, blk g203 #[.int .i64 a183, .int .i64 a184] 3, blk g280 #[.int .i64 24, .int .i64 a185, .int .i64 t277] 3, blk g306 #[.int .i64 t303, .int .i64 (wrap64 (a184 - 8)), .int .i64 (wrap64 ((wrap64 (a184 - 8)) + 1)), .int .i64 t472, .int .i64 t499, .int .i64 t483, .int .i64 t542, .int .i64 t638] 38, blk g469 #[.int .i64 (wrap64 (a184 - 8)), .int .i64 (wrap64 (a184 - 1))] 3, blk g480 #[.int .i64 a183, .int .i64 (wrap64 (a184 + 1))] 3, blk g490 #[.int .i64 3, .int .i64 t483] 3, blk g496 #[.int .i64 t493, .int .i64 4] 3, blk g527 #[.int .i64 2, .int .i64 t524] 3, blk g533 #[.int .i64 2, .int .i64 (wrap64 ((wrap64 (a184 - 8)) + 1))] 3, blk g539 #[.int .i64 t530, .int .i64 t536] 3, blk g626 #[.int .i64 t499, .int .i64 t499, .int .i64 t483] 3, blk g635 #[.int .i64 t632, .int .i64 2] 3] (World.setCell (World.setCell (World.setCell (World.setCell (World.setCell (World.setCell w641 ⟨g190, 0, none⟩ (.int .i64 t303)) ⟨g190, 1, none⟩ (.int .i64 (wrap64 (a184 - 8)))) ⟨g190, 2, none⟩ (.int .i64 (wrap64 ((wrap64 (a184 - 8)) + 1)))) ⟨g190, 3, none⟩ (.int .i64 t472)) ⟨g190, 4, none⟩ (.int .i64 t499)) ⟨g190, 5, none⟩ (.int .i64 t483)) := (hq4).set1 (l1 := [blk g187 #[.int .i64 a183, .int .i64 a184, .int .i64 a185, .int .i64 a186] 32]) (l2 := [blk g203 #[.int .i64 a183, .int .i64 a184] 3, blk g280 #[.int .i64 24, .int .i64 a185, .int .i64 t277] 3, blk g306 #[.int .i64 t303, .int .i64 (wrap64 (a184 - 8)), .int .i64 (wrap64 ((wrap64 (a184 - 8)) + 1)), .int .i64 t472, .int .i64 t499, .int .i64 t483, .int .i64 t542, .int .i64 t638] 38, blk g469 #[.int .i64 (wrap64 (a184 - 8)), .int .i64 (wrap64 (a184 - 1))] 3, blk g480 #[.int .i64 a183, .int .i64 (wrap64 (a184 + 1))] 3, blk g490 #[.int .i64 3, .int .i64 t483] 3, blk g496 #[.int .i64 t493, .int .i64 4] 3, blk g527 #[.int .i64 2, .int .i64 t524] 3, blk g533 #[.int .i64 2, .int .i64 (wrap64 ((wrap64 (a184 - 8)) + 1))] 3, blk g539 #[.int .i64 t530, .int .i64 t536] 3, blk g626 #[.int .i64 t499, .int .i64 t499, .int .i64 t483] 3, blk g635 #[.int .i64 t632, .int .i64 2] 3]) 5 (.int .i64 t483); have hq6 : Sep (fps []) w [blk g187 #[.int .i64 a183, .int .i64 a184, .int .i64 a185, .int .i64 a186] 32, blk g190 #[.int .i64 t303, .int .i64 (wrap64 (a184 - 8)), .int .i64 (wrap64 ((wrap64 (a184 - 8)) + 1)), .int .i64 t472, .int .i64 t499, .int .i64 t483, .int .i64 t542, .int .i64 0] 38, blk g203 #[.int .i64 a183, .int .i64 a184] 3, blk g280 #[.int .i64 24, .int .i64 a185, .int .i64 t277] 3, blk g306 #[.int .i64 t303, .int .i64 (wrap64 (a184 - 8)), .int .i64 (wrap64 ((wrap64 (a184 - 8)) + 1)), .int .i64 t472, .int .i64 t499, .int .i64 t483, .int .i64 t542, .int .i64 t638] 38, blk g469 #[.int .i64 (wrap64 (a184 - 8)), .int .i64 (wrap64 (a184 - 1))] 3, blk g480 #[.int .i64 a183, .int .i64 (wrap64 (a184 + 1))] 3, blk g490 #[.int .i64 3, .int .i64 t483] 3, blk g496 #[.int .i64 t493, .int .i64 4] 3, blk g527 #[.int .i64 2, .int .i64 t524] 3, blk g533 #[.int .i64 2, .int .i64 (wrap64 ((wrap64 (a184 - 8)) + 1))] 3, blk g539 #[.int .i64 t530, .int .i64 t536] 3, blk g626 #[.int .i64 t499, .int .i64 t499, .int .i64 t483] 3, blk g635 #[.int .i64 t632, .int .i64 2] 3] (World.setCell (World.setCell (World.setCell (World.setCell (World.setCell (World.setCell (World.setCell w641 ⟨g190, 0, none⟩ (.int .i64 t303)) ⟨g190, 1, none⟩ (.int .i64 (wrap64 (a184 - 8)))) ⟨g190, 2, none⟩ (.int .i64 (wrap64 ((wrap64 (a184 - 8)) + 1)))) ⟨g190, 3, none⟩ (.int .i64 t472)) ⟨g190, 4, none⟩ (.int .i64 t499)) ⟨g190, 5, none⟩ (.int .i64 t483)) ⟨g190, 6, none⟩ (.int .i64 t542)) := (hq5).set1 (l1 := [blk g187 #[.int .i64 a183, .int .i64 a184, .int .i64 a185, .int .i64 a186] 32]) (l2 := [blk g203 #[.int .i64 a183, .int .i64 a184] 3, blk g280 #[.int .i64 24, .int .i64 a185, .int .i64 t277] 3, blk g306 #[.int .i64 t303, .int .i64 (wrap64 (a184 - 8)), .int .i64 (wrap64 ((wrap64 (a184 - 8)) + 1)), .int .i64 t472, .int .i64 t499, .int .i64 t483, .int .i64 t542, .int .i64 t638] 38, blk g469 #[.int .i64 (wrap64 (a184 - 8)), .int .i64 (wrap64 (a184 - 1))] 3, blk g480 #[.int .i64 a183, .int .i64 (wrap64 (a184 + 1))] 3, blk g490 #[.int .i64 3, .int .i64 t483] 3, blk g496 #[.int .i64 t493, .int .i64 4] 3, blk g527 #[.int .i64 2, .int .i64 t524] 3, blk g533 #[.int .i64 2, .int .i64 (wrap64 ((wrap64 (a184 - 8)) + 1))] 3, blk g539 #[.int .i64 t530, .int .i64 t536] 3, blk g626 #[.int .i64 t499, .int .i64 t499, .int .i64 t483] 3, blk g635 #[.int .i64 t632, .int .i64 2] 3]) 6 (.int .i64 t542); have hq7 : Sep (fps []) w [blk g187 #[.int .i64 a183, .int .i64 a184, .int .i64 a185, .int .i64 a186] 32, blk g190 #[.int .i64 t303, .int .i64 (wrap64 (a184 - 8)), .int .i64 (wrap64 ((wrap64 (a184 - 8)) + 1)), .int .i64 t472, .int .i64 t499, .int .i64 t483, .int .i64 t542, .int .i64 t638] 38, blk g203 #[.int .i64 a183, .int .i64 a184] 3, blk g280 #[.int .i64 24, .int .i64 a185, .int .i64 t277] 3, blk g306 #[.int .i64 t303, .int .i64 (wrap64 (a184 - 8)), .int .i64 (wrap64 ((wrap64 (a184 - 8)) + 1)), .int .i64 t472, .int .i64 t499, .int .i64 t483, .int .i64 t542, .int .i64 t638] 38, blk g469 #[.int .i64 (wrap64 (a184 - 8)), .int .i64 (wrap64 (a184 - 1))] 3, blk g480 #[.int .i64 a183, .int .i64 (wrap64 (a184 + 1))] 3, blk g490 #[.int .i64 3, .int .i64 t483] 3, blk g496 #[.int .i64 t493, .int .i64 4] 3, blk g527 #[.int .i64 2, .int .i64 t524] 3, blk g533 #[.int .i64 2, .int .i64 (wrap64 ((wrap64 (a184 - 8)) + 1))] 3, blk g539 #[.int .i64 t530, .int .i64 t536] 3, blk g626 #[.int .i64 t499, .int .i64 t499, .int .i64 t483] 3, blk g635 #[.int .i64 t632, .int .i64 2] 3] (World.setCell (World.setCell (World.setCell (World.setCell (World.setCell (World.setCell (World.setCell (World.setCell w641 ⟨g190, 0, none⟩ (.int .i64 t303)) ⟨g190, 1, none⟩ (.int .i64 (wrap64 (a184 - 8)))) ⟨g190, 2, none⟩ (.int .i64 (wrap64 ((wrap64 (a184 - 8)) + 1)))) ⟨g190, 3, none⟩ (.int .i64 t472)) ⟨g190, 4, none⟩ (.int .i64 t499)) ⟨g190, 5, none⟩ (.int .i64 t483)) ⟨g190, 6, none⟩ (.int .i64 t542)) ⟨g190, 7, none⟩ (.int .i64 t638)) := (hq6).set1 (l1 := [blk g187 #[.int .i64 a183, .int .i64 a184, .int .i64 a185, .int .i64 a186] 32]) (l2 := [blk g203 #[.int .i64 a183, .int .i64 a184] 3, blk g280 #[.int .i64 24, .int .i64 a185, .int .i64 t277] 3, blk g306 #[.int .i64 t303, .int .i64 (wrap64 (a184 - 8)), .int .i64 (wrap64 ((wrap64 (a184 - 8)) + 1)), .int .i64 t472, .int .i64 t499, .int .i64 t483, .int .i64 t542, .int .i64 t638] 38, blk g469 #[.int .i64 (wrap64 (a184 - 8)), .int .i64 (wrap64 (a184 - 1))] 3, blk g480 #[.int .i64 a183, .int .i64 (wrap64 (a184 + 1))] 3, blk g490 #[.int .i64 3, .int .i64 t483] 3, blk g496 #[.int .i64 t493, .int .i64 4] 3, blk g527 #[.int .i64 2, .int .i64 t524] 3, blk g533 #[.int .i64 2, .int .i64 (wrap64 ((wrap64 (a184 - 8)) + 1))] 3, blk g539 #[.int .i64 t530, .int .i64 t536] 3, blk g626 #[.int .i64 t499, .int .i64 t499, .int .i64 t483] 3, blk g635 #[.int .i64 t632, .int .i64 2] 3]) 7 (.int .i64 t638); have HS_ : Aside0 (Sep (fps []) w [blk g187 #[.int .i64 a183, .int .i64 a184, .int .i64 a185, .int .i64 a186] 32, blk g190 #[.int .i64 t303, .int .i64 (wrap64 (a184 - 8)), .int .i64 (wrap64 ((wrap64 (a184 - 8)) + 1)), .int .i64 t472, .int .i64 t499, .int .i64 t483, .int .i64 t542, .int .i64 t638] 38, blk g203 #[.int .i64 a183, .int .i64 a184] 3, blk g280 #[.int .i64 24, .int .i64 a185, .int .i64 t277] 3, blk g306 #[.int .i64 t303, .int .i64 (wrap64 (a184 - 8)), .int .i64 (wrap64 ((wrap64 (a184 - 8)) + 1)), .int .i64 t472, .int .i64 t499, .int .i64 t483, .int .i64 t542, .int .i64 t638] 38, blk g469 #[.int .i64 (wrap64 (a184 - 8)), .int .i64 (wrap64 (a184 - 1))] 3, blk g480 #[.int .i64 a183, .int .i64 (wrap64 (a184 + 1))] 3, blk g490 #[.int .i64 3, .int .i64 t483] 3, blk g496 #[.int .i64 t493, .int .i64 4] 3, blk g527 #[.int .i64 2, .int .i64 t524] 3, blk g533 #[.int .i64 2, .int .i64 (wrap64 ((wrap64 (a184 - 8)) + 1))] 3, blk g539 #[.int .i64 t530, .int .i64 t536] 3, blk g626 #[.int .i64 t499, .int .i64 t499, .int .i64 t483] 3, blk g635 #[.int .i64 t632, .int .i64 2] 3] w668) := ⟨by rw [hst]; exact hq7⟩; clear hq0 hq1 hq2 hq3 hq4 hq5 hq6 hq7; clear HS hst; have HS := HS_; clear HS_))
        have hc669 : w668.cell? ⟨g190, 0, none⟩ = some (.int .i64 t303) := blk_cellv (HS.out.at1) 0 rfl
        have hc670 : w668.cell? ⟨g190, 1, none⟩ = some (.int .i64 (wrap64 (a184 - 8))) := blk_cellv (HS.out.at1) 1 rfl
        have hc671 : w668.cell? ⟨g190, 2, none⟩ = some (.int .i64 (wrap64 ((wrap64 (a184 - 8)) + 1))) := blk_cellv (HS.out.at1) 2 rfl
        have hc672 : w668.cell? ⟨g190, 3, none⟩ = some (.int .i64 t472) := blk_cellv (HS.out.at1) 3 rfl
        have hc673 : w668.cell? ⟨g190, 4, none⟩ = some (.int .i64 t499) := blk_cellv (HS.out.at1) 4 rfl
        have hc674 : w668.cell? ⟨g190, 5, none⟩ = some (.int .i64 t483) := blk_cellv (HS.out.at1) 5 rfl
        have hc675 : w668.cell? ⟨g190, 6, none⟩ = some (.int .i64 t542) := blk_cellv (HS.out.at1) 6 rfl
        have hc676 : w668.cell? ⟨g190, 7, none⟩ = some (.int .i64 t638) := blk_cellv (HS.out.at1) 7 rfl
        refine bodyPost_ret (v := .tuple #[.agg #[.int .i64 t303, .int .i64 (wrap64 (a184 - 8)), .int .i64 (wrap64 ((wrap64 (a184 - 8)) + 1)), .int .i64 t472, .int .i64 t499, .int .i64 t483, .int .i64 t542, .int .i64 t638], .int .i64 0]) (by simp [results, Try.results21, go_sem, hc669, hc670, hc671, hc672, hc673, hc674, hc675, hc676]) rfl ?_
        rw [← some_eq H]
        exact ⟨(by first | rfl | (simp [IntKind.wrap_u32]; done)), (HS.out).keep (l := []) (rest := [blk g187 #[.int .i64 a183, .int .i64 a184, .int .i64 a185, .int .i64 a186] 32, blk g190 #[.int .i64 t303, .int .i64 (wrap64 (a184 - 8)), .int .i64 (wrap64 ((wrap64 (a184 - 8)) + 1)), .int .i64 t472, .int .i64 t499, .int .i64 t483, .int .i64 t542, .int .i64 t638] 38, blk g203 #[.int .i64 a183, .int .i64 a184] 3, blk g280 #[.int .i64 24, .int .i64 a185, .int .i64 t277] 3, blk g306 #[.int .i64 t303, .int .i64 (wrap64 (a184 - 8)), .int .i64 (wrap64 ((wrap64 (a184 - 8)) + 1)), .int .i64 t472, .int .i64 t499, .int .i64 t483, .int .i64 t542, .int .i64 t638] 38, blk g469 #[.int .i64 (wrap64 (a184 - 8)), .int .i64 (wrap64 (a184 - 1))] 3, blk g480 #[.int .i64 a183, .int .i64 (wrap64 (a184 + 1))] 3, blk g490 #[.int .i64 3, .int .i64 t483] 3, blk g496 #[.int .i64 t493, .int .i64 4] 3, blk g527 #[.int .i64 2, .int .i64 t524] 3, blk g533 #[.int .i64 2, .int .i64 (wrap64 ((wrap64 (a184 - 8)) + 1))] 3, blk g539 #[.int .i64 t530, .int .i64 t536] 3, blk g626 #[.int .i64 t499, .int .i64 t499, .int .i64 t483] 3, blk g635 #[.int .i64 t632, .int .i64 2] 3])⟩
  · have H := if_no c200 H
    have c200b0 : (t197 == 0) = false := beq_eq_false_iff_ne.mpr c200
    have c200b1 : (t197 != 0) = true := bne_iff_ne.mpr c200
    clear c200
    have hc677 : w199.cell? ⟨g190, 0, none⟩ = some (.int .i64 0) := blk_cellv (HS.out.at1) 0 rfl
    have hz678 : w199.frozen? ⟨g190, 0, none⟩ = false := blk_fz (HS.out.at1) 0
    have hc679 : w199.cell? ⟨g190, 1, none⟩ = some (.int .i64 0) := blk_cellv (HS.out.at1) 1 rfl
    have hz680 : w199.frozen? ⟨g190, 1, none⟩ = false := blk_fz (HS.out.at1) 1
    have hc681 : w199.cell? ⟨g190, 2, none⟩ = some (.int .i64 0) := blk_cellv (HS.out.at1) 2 rfl
    have hz682 : w199.frozen? ⟨g190, 2, none⟩ = false := blk_fz (HS.out.at1) 2
    have hc683 : w199.cell? ⟨g190, 3, none⟩ = some (.int .i64 0) := blk_cellv (HS.out.at1) 3 rfl
    have hz684 : w199.frozen? ⟨g190, 3, none⟩ = false := blk_fz (HS.out.at1) 3
    have hc685 : w199.cell? ⟨g190, 4, none⟩ = some (.int .i64 0) := blk_cellv (HS.out.at1) 4 rfl
    have hz686 : w199.frozen? ⟨g190, 4, none⟩ = false := blk_fz (HS.out.at1) 4
    have hc687 : w199.cell? ⟨g190, 5, none⟩ = some (.int .i64 0) := blk_cellv (HS.out.at1) 5 rfl
    have hz688 : w199.frozen? ⟨g190, 5, none⟩ = false := blk_fz (HS.out.at1) 5
    have hc689 : w199.cell? ⟨g190, 6, none⟩ = some (.int .i64 0) := blk_cellv (HS.out.at1) 6 rfl
    have hz690 : w199.frozen? ⟨g190, 6, none⟩ = false := blk_fz (HS.out.at1) 6
    have hc691 : w199.cell? ⟨g190, 7, none⟩ = some (.int .i64 0) := blk_cellv (HS.out.at1) 7 rfl
    have hz692 : w199.frozen? ⟨g190, 7, none⟩ = false := blk_fz (HS.out.at1) 7
    go_wp2_with (first | ((with_reducible refine gate_store (t := 38) (p := 2) rfl ?_); refine store_event (w1 := (World.setCell (World.setCell (World.setCell (World.setCell (World.setCell (World.setCell (World.setCell (World.setCell w199 ⟨g190, 0, none⟩ (.int .i64 0)) ⟨g190, 1, none⟩ (.int .i64 0)) ⟨g190, 2, none⟩ (.int .i64 0)) ⟨g190, 3, none⟩ (.int .i64 0)) ⟨g190, 4, none⟩ (.int .i64 0)) ⟨g190, 5, none⟩ (.int .i64 0)) ⟨g190, 6, none⟩ (.int .i64 0)) ⟨g190, 7, none⟩ (.int .i64 0))) rfl (t := 38) (p := 2) rfl rfl ?hr ?_; (case hr => first | (go_simp; done) | (go_simp; rfl)); intro w693 hst; clear hc677 hz678 hc679 hz680 hc681 hz682 hc683 hz684 hc685 hz686 hc687 hz688 hc689 hz690 hc691 hz692; have hq0 : Sep (fps []) w [blk g187 #[.int .i64 a183, .int .i64 a184, .int .i64 a185, .int .i64 a186] 32, blk g190 #[.int .i64 0, .int .i64 0, .int .i64 0, .int .i64 0, .int .i64 0, .int .i64 0, .int .i64 0, .int .i64 0] 38] (World.setCell w199 ⟨g190, 0, none⟩ (.int .i64 0)) := (HS.out).set1 (l1 := [blk g187 #[.int .i64 a183, .int .i64 a184, .int .i64 a185, .int .i64 a186] 32]) (l2 := []) 0 (.int .i64 0); have hq1 : Sep (fps []) w [blk g187 #[.int .i64 a183, .int .i64 a184, .int .i64 a185, .int .i64 a186] 32, blk g190 #[.int .i64 0, .int .i64 0, .int .i64 0, .int .i64 0, .int .i64 0, .int .i64 0, .int .i64 0, .int .i64 0] 38] (World.setCell (World.setCell w199 ⟨g190, 0, none⟩ (.int .i64 0)) ⟨g190, 1, none⟩ (.int .i64 0)) := (hq0).set1 (l1 := [blk g187 #[.int .i64 a183, .int .i64 a184, .int .i64 a185, .int .i64 a186] 32]) (l2 := []) 1 (.int .i64 0); have hq2 : Sep (fps []) w [blk g187 #[.int .i64 a183, .int .i64 a184, .int .i64 a185, .int .i64 a186] 32, blk g190 #[.int .i64 0, .int .i64 0, .int .i64 0, .int .i64 0, .int .i64 0, .int .i64 0, .int .i64 0, .int .i64 0] 38] (World.setCell (World.setCell (World.setCell w199 ⟨g190, 0, none⟩ (.int .i64 0)) ⟨g190, 1, none⟩ (.int .i64 0)) ⟨g190, 2, none⟩ (.int .i64 0)) := (hq1).set1 (l1 := [blk g187 #[.int .i64 a183, .int .i64 a184, .int .i64 a185, .int .i64 a186] 32]) (l2 := []) 2 (.int .i64 0); have hq3 : Sep (fps []) w [blk g187 #[.int .i64 a183, .int .i64 a184, .int .i64 a185, .int .i64 a186] 32, blk g190 #[.int .i64 0, .int .i64 0, .int .i64 0, .int .i64 0, .int .i64 0, .int .i64 0, .int .i64 0, .int .i64 0] 38] (World.setCell (World.setCell (World.setCell (World.setCell w199 ⟨g190, 0, none⟩ (.int .i64 0)) ⟨g190, 1, none⟩ (.int .i64 0)) ⟨g190, 2, none⟩ (.int .i64 0)) ⟨g190, 3, none⟩ (.int .i64 0)) := (hq2).set1 (l1 := [blk g187 #[.int .i64 a183, .int .i64 a184, .int .i64 a185, .int .i64 a186] 32]) (l2 := []) 3 (.int .i64 0); have hq4 : Sep (fps []) w [blk g187 #[.int .i64 a183, .int .i64 a184, .int .i64 a185, .int .i64 a186] 32, blk g190 #[.int .i64 0, .int .i64 0, .int .i64 0, .int .i64 0, .int .i64 0, .int .i64 0, .int .i64 0, .int .i64 0] 38] (World.setCell (World.setCell (World.setCell (World.setCell (World.setCell w199 ⟨g190, 0, none⟩ (.int .i64 0)) ⟨g190, 1, none⟩ (.int .i64 0)) ⟨g190, 2, none⟩ (.int .i64 0)) ⟨g190, 3, none⟩ (.int .i64 0)) ⟨g190, 4, none⟩ (.int .i64 0)) := (hq3).set1 (l1 := [blk g187 #[.int .i64 a183, .int .i64 a184, .int .i64 a185, .int .i64 a186] 32]) (l2 := []) 4 (.int .i64 0); have hq5 : Sep (fps []) w [blk g187 #[.int .i64 a183, .int .i64 a184, .int .i64 a185, .int .i64 a186] 32, blk g190 #[.int .i64 0, .int .i64 0, .int .i64 0, .int .i64 0, .int .i64 0, .int .i64 0, .int .i64 0, .int .i64 0] 38] (World.setCell (World.setCell (World.setCell (World.setCell (World.setCell (World.setCell w199 ⟨g190, 0, none⟩ (.int .i64 0)) ⟨g190, 1, none⟩ (.int .i64 0)) ⟨g190, 2, none⟩ (.int .i64 0)) ⟨g190, 3, none⟩ (.int .i64 0)) ⟨g190, 4, none⟩ (.int .i64 0)) ⟨g190, 5, none⟩ (.int .i64 0)) := (hq4).set1 (l1 := [blk g187 #[.int .i64 a183, .int .i64 a184, .int .i64 a185, .int .i64 a186] 32]) (l2 := []) 5 (.int .i64 0); have hq6 : Sep (fps []) w [blk g187 #[.int .i64 a183, .int .i64 a184, .int .i64 a185, .int .i64 a186] 32, blk g190 #[.int .i64 0, .int .i64 0, .int .i64 0, .int .i64 0, .int .i64 0, .int .i64 0, .int .i64 0, .int .i64 0] 38] (World.setCell (World.setCell (World.setCell (World.setCell (World.setCell (World.setCell (World.setCell w199 ⟨g190, 0, none⟩ (.int .i64 0)) ⟨g190, 1, none⟩ (.int .i64 0)) ⟨g190, 2, none⟩ (.int .i64 0)) ⟨g190, 3, none⟩ (.int .i64 0)) ⟨g190, 4, none⟩ (.int .i64 0)) ⟨g190, 5, none⟩ (.int .i64 0)) ⟨g190, 6, none⟩ (.int .i64 0)) := (hq5).set1 (l1 := [blk g187 #[.int .i64 a183, .int .i64 a184, .int .i64 a185, .int .i64 a186] 32]) (l2 := []) 6 (.int .i64 0); have hq7 : Sep (fps []) w [blk g187 #[.int .i64 a183, .int .i64 a184, .int .i64 a185, .int .i64 a186] 32, blk g190 #[.int .i64 0, .int .i64 0, .int .i64 0, .int .i64 0, .int .i64 0, .int .i64 0, .int .i64 0, .int .i64 0] 38] (World.setCell (World.setCell (World.setCell (World.setCell (World.setCell (World.setCell (World.setCell (World.setCell w199 ⟨g190, 0, none⟩ (.int .i64 0)) ⟨g190, 1, none⟩ (.int .i64 0)) ⟨g190, 2, none⟩ (.int .i64 0)) ⟨g190, 3, none⟩ (.int .i64 0)) ⟨g190, 4, none⟩ (.int .i64 0)) ⟨g190, 5, none⟩ (.int .i64 0)) ⟨g190, 6, none⟩ (.int .i64 0)) ⟨g190, 7, none⟩ (.int .i64 0)) := (hq6).set1 (l1 := [blk g187 #[.int .i64 a183, .int .i64 a184, .int .i64 a185, .int .i64 a186] 32]) (l2 := []) 7 (.int .i64 0); have HS_ : Aside0 (Sep (fps []) w [blk g187 #[.int .i64 a183, .int .i64 a184, .int .i64 a185, .int .i64 a186] 32, blk g190 #[.int .i64 0, .int .i64 0, .int .i64 0, .int .i64 0, .int .i64 0, .int .i64 0, .int .i64 0, .int .i64 0] 38] w693) := ⟨by rw [hst]; exact hq7⟩; clear hq0 hq1 hq2 hq3 hq4 hq5 hq6 hq7; clear HS hst; have HS := HS_; clear HS_))
    have hc694 : w693.cell? ⟨g190, 0, none⟩ = some (.int .i64 0) := blk_cellv (HS.out.at1) 0 rfl
    have hc695 : w693.cell? ⟨g190, 1, none⟩ = some (.int .i64 0) := blk_cellv (HS.out.at1) 1 rfl
    have hc696 : w693.cell? ⟨g190, 2, none⟩ = some (.int .i64 0) := blk_cellv (HS.out.at1) 2 rfl
    have hc697 : w693.cell? ⟨g190, 3, none⟩ = some (.int .i64 0) := blk_cellv (HS.out.at1) 3 rfl
    have hc698 : w693.cell? ⟨g190, 4, none⟩ = some (.int .i64 0) := blk_cellv (HS.out.at1) 4 rfl
    have hc699 : w693.cell? ⟨g190, 5, none⟩ = some (.int .i64 0) := blk_cellv (HS.out.at1) 5 rfl
    have hc700 : w693.cell? ⟨g190, 6, none⟩ = some (.int .i64 0) := blk_cellv (HS.out.at1) 6 rfl
    have hc701 : w693.cell? ⟨g190, 7, none⟩ = some (.int .i64 0) := blk_cellv (HS.out.at1) 7 rfl
    refine bodyPost_ret (v := .tuple #[.agg #[.int .i64 0, .int .i64 0, .int .i64 0, .int .i64 0, .int .i64 0, .int .i64 0, .int .i64 0, .int .i64 0], .int .i64 t197]) (by simp [results, Try.results21, go_sem, hc694, hc695, hc696, hc697, hc698, hc699, hc700, hc701]) rfl ?_
    rw [← some_eq H]
    exact ⟨(by first | rfl | (simp [IntKind.wrap_u32]; done)), (HS.out).keep (l := []) (rest := [blk g187 #[.int .i64 a183, .int .i64 a184, .int .i64 a185, .int .i64 a186] 32, blk g190 #[.int .i64 0, .int .i64 0, .int .i64 0, .int .i64 0, .int .i64 0, .int .i64 0, .int .i64 0, .int .i64 0] 38])⟩
end Go.Proofs.Ytgkpcboaiaiahab.C

/- Each function of the group RN does what its plain function says, and changes nothing that was there; proved by walking its code. No condition. -/
import Derived.Test.YtobeonkddamnoaaDoorQw
import Derived.Test.YtobeonkddamnoaaDoorMRN
import Derived.Test.YtobeonkddamnoaaDoorGRN0
namespace Go.Proofs.YtobeonkddamnoaaDoor.C
open Go.RowKit Go.Proofs.YtobeonkddamnoaaDoorW.PrintWords Go.Proofs.YtobeonkddamnoaaDoorW.PrintLast Go.Proofs.YtobeonkddamnoaaDoorW.PrintMore Go.Proofs.YtobeonkddamnoaaDoor.Q Go.Proofs.YtobeonkddamnoaaDoor.M
set_option linter.unusedVariables false
set_option linter.unusedSimpArgs false
set_option maxHeartbeats 30000000 in
set_option maxRecDepth 100000 in
theorem plan_Of.calls (k : Nat) (a713 : Int) (a714 : Int) (a715 : Int) (a716 : Int) (r : Int × Int × Int × Int × Int × Int × Int × Int × Int) (w : World)  (HGl0 : Aside0 (Gl 0 #[.int .i64 0, .int .i64 0, .int .i64 0, .int .i64 0, .int .i64 0] (fps []) w)) (HS : Aside0 (Sep (fps []) w [] w)) (H : Aside0 (plan_Of.f k a713 a714 a715 a716 = some r)) :
    Calls Tryd.prog 65 #[.agg #[.int .i64 a713, .int .i64 a714, .int .i64 a715, .int .i64 a716]] w fun e w' => e = .returned (.tuple #[.agg #[.int .i64 r.1, .int .i64 r.2.1, .int .i64 r.2.2.1, .int .i64 r.2.2.2.1, .int .i64 r.2.2.2.2.1, .int .i64 r.2.2.2.2.2.1, .int .i64 r.2.2.2.2.2.2.1, .int .i64 r.2.2.2.2.2.2.2.1], .int .i64 r.2.2.2.2.2.2.2.2]) ∧ Sep (fps []) w [] w' := by
  unfold plan_Of.f at H
  go_enter Tryd.func65, Tryd.ntmps65
  go_wp2_with (first | ((with_reducible refine gate_dst (N := 1) rfl ?_); refine box_on ?hg (N := 1) ?hd (cs := #[.int .i64 a713, .int .i64 a714, .int .i64 a715, .int .i64 a716]) (t := 30) ?hr ?_; (case hd => rfl); (case hg => rfl); (case hr => first | (go_simp; done) | (go_simp; rfl)); intro g717 hg w718 hbox hb; replace HS : Aside0 (Sep (fps []) w [b7 g717 a713 a714 a715 a716] w718) := ⟨HS.out.box hg hbox hb⟩; clear hg hbox hb) | ((with_reducible refine gate_dst (N := 2) rfl ?_); refine box_on ?hg (N := 2) ?hd (cs := #[.int .i64 0, .int .i64 0, .int .i64 0, .int .i64 0, .int .i64 0, .int .i64 0, .int .i64 0, .int .i64 0]) (t := 97) ?hr ?_; (case hd => rfl); (case hg => rfl); (case hr => first | (go_simp; done) | (go_simp; rfl)); intro g720 hg w721 hbox hb; replace HS : Aside0 (Sep (fps []) w [b7 g717 a713 a714 a715 a716, b10 g720 0 0 0 0 0 0 0 0] w721) := ⟨HS.out.box hg hbox hb⟩; clear hg hbox hb; have hc723 : w721.cell? ⟨g717, 0, none⟩ = some (.int .i64 a713) := blk_cellv (HS.out.at0) 0 rfl; have hc724 : w721.cell? ⟨g717, 1, none⟩ = some (.int .i64 a714) := blk_cellv (HS.out.at0) 1 rfl; have hc725 : w721.cell? ⟨g717, 2, none⟩ = some (.int .i64 a715) := blk_cellv (HS.out.at0) 2 rfl; have hc726 : w721.cell? ⟨g717, 3, none⟩ = some (.int .i64 a716) := blk_cellv (HS.out.at0) 3 rfl))
  clear hc723 hc724 hc725 hc726
  obtain ⟨t768, HA769, H⟩ := bind_some H
  refine (plan_Check.calls a713 a714 a715 a716 t768 _ ⟨Gl.pass (l := []) (rest := [b7 g717 a713 a714 a715 a716, b10 g720 0 0 0 0 0 0 0 0]) HGl0.out HS.out⟩ ⟨HS.out.begin (l := []) (rest := [b7 g717 a713 a714 a715 a716, b10 g720 0 0 0 0 0 0 0 0])⟩ HA769).mono ?_
  rintro e_ w770 ⟨rfl, hS⟩
  replace HS : Aside0 (Sep (fps []) w [b7 g717 a713 a714 a715 a716, b10 g720 0 0 0 0 0 0 0 0] w770) := ⟨HS.out.call (l := []) (rest := [b7 g717 a713 a714 a715 a716, b10 g720 0 0 0 0 0 0 0 0]) hS⟩
  clear hS
  by_cases c771 : t768 = 0
  · have H := if_yes c771 H
    have c771b0 : (t768 == 0) = true := beq_iff_eq.mpr c771
    have c771b1 : (t768 != 0) = false := bne_eq_false_iff_eq.mpr c771
    clear c771
    go_wp2_with fail
    obtain ⟨t848, HA849, H⟩ := bind_some H
    obtain ⟨t874, HA875, H⟩ := bind_some H
    go_cut [5] (fun v5 wc => ∃ (g774 : Nat) (g851 : Nat) (g877 : Nat), v5 = .pointer (some ⟨g877, 0, none⟩) ∧ Aside0 (Sep (fps []) w [b7 g717 a713 a714 a715 a716, b10 g720 0 0 0 0 0 0 0 0, b11 g774 a713 a714, b12 g851 24 a715 t848, b10 g877 t874 (wrap64 (a714 - 8)) 0 0 0 0 0 0] wc))
    case first =>
      go_wp2_with fail
      refine start_ (n := 16) (S := (fun w' => w'.cell? ⟨g717, 2, none⟩ = some (.int .i64 a715) ∧ w'.cell? ⟨g717, 0, none⟩ = some (.int .i64 a713) ∧ w'.cell? ⟨g717, 1, none⟩ = some (.int .i64 a714))) (ds := []) #[false, false, false, false, false, false, false, false, false, false, false, false, false, false, false, false] (by kernel_rfl) rfl rfl (⟨blk_cellv ((HS.out.drew).at0) 2 rfl, blk_cellv ((HS.out.drew).at0) 0 rfl, blk_cellv ((HS.out.drew).at0) 1 rfl⟩) (fun hHeld => ?_)
      have HS_ := Aside0.mk HS.out.drew
      clear HS
      generalize World.drew _ = w899 at HS_ hHeld ⊢
      have HS := HS_
      clear HS_
      refine pure_ (i := 0) (N := some 12) (v := ?_) (a' := ?_) #[true, false, false, false, false, false, false, false, false, false, false, false, false, false, false, false] rfl rfl (by kernel_rfl) (fun _ _ _ h => h) (Or.inl ⟨by rfl, ?_⟩) ?_ ?_
      rotate_left
      · intro w'
        go_simp
        with_reducible rfl
      rotate_left
      · simp only [Act.put, List.setIfInBounds_toArray, List.set_cons_zero, List.set_cons_succ, i64_w, i32_w]
        rfl
      refine pure_ (i := 2) (N := some 14) (v := ?_) (a' := ?_) #[true, false, true, false, false, false, false, false, false, false, false, false, false, false, false, false] rfl rfl (by kernel_rfl) (fun _ _ _ h => h) (Or.inl ⟨by rfl, ?_⟩) ?_ ?_
      rotate_left
      · intro w'
        go_simp
        with_reducible rfl
      rotate_left
      · simp only [Act.put, List.setIfInBounds_toArray, List.set_cons_zero, List.set_cons_succ, i64_w, i32_w]
        rfl
      refine pure_ (i := 4) (N := some 16) (v := ?_) (a' := ?_) #[true, false, true, false, true, false, false, false, false, false, false, false, false, false, false, false] rfl rfl (by kernel_rfl) (fun _ _ _ h => h) (Or.inl ⟨by rfl, ?_⟩) ?_ ?_
      rotate_left
      · intro w'
        go_simp
        with_reducible rfl
      rotate_left
      · simp only [Act.put, List.setIfInBounds_toArray, List.set_cons_zero, List.set_cons_succ, i64_w, i32_w]
        rfl
      refine pure_ (i := 10) (N := some 22) (v := ?_) (a' := ?_) #[true, false, true, false, true, false, false, false, false, false, true, false, false, false, false, false] rfl rfl (by kernel_rfl) (fun _ _ _ h => h) (Or.inl ⟨by rfl, ?_⟩) ?_ ?_
      rotate_left
      · intro w'
        go_simp
        with_reducible rfl
      rotate_left
      · simp only [Act.put, List.setIfInBounds_toArray, List.set_cons_zero, List.set_cons_succ, i64_w, i32_w]
        rfl
      refine take_ (i := 1) (N := some 13) (v := ?_) (a' := ?_) #[true, true, true, false, true, false, false, false, false, false, true, false, false, false, false, false] rfl rfl (by kernel_rfl) (fun _ _ _ h => h) (Or.inl ⟨by rfl, ?_⟩) hHeld ?_ ?_
      rotate_left
      · rintro w' hS'
        obtain ⟨s0, s1, s2⟩ := hS'
        go_simp
        with_reducible rfl
      rotate_left
      · simp only [Act.put, List.setIfInBounds_toArray, List.set_cons_zero, List.set_cons_succ, i64_w, i32_w]
        rfl
      refine take_ (i := 3) (N := some 15) (v := ?_) (a' := ?_) #[true, true, true, true, true, false, false, false, false, false, true, false, false, false, false, false] rfl rfl (by kernel_rfl) (fun _ _ _ h => h) (Or.inl ⟨by rfl, ?_⟩) hHeld ?_ ?_
      rotate_left
      · rintro w' hS'
        obtain ⟨s0, s1, s2⟩ := hS'
        go_simp
        with_reducible rfl
      rotate_left
      · simp only [Act.put, List.setIfInBounds_toArray, List.set_cons_zero, List.set_cons_succ, i64_w, i32_w]
        rfl
      refine take_ (i := 5) (N := some 17) (v := ?_) (a' := ?_) #[true, true, true, true, true, true, false, false, false, false, true, false, false, false, false, false] rfl rfl (by kernel_rfl) (fun _ _ _ h => h) (Or.inl ⟨by rfl, ?_⟩) hHeld ?_ ?_
      rotate_left
      · rintro w' hS'
        obtain ⟨s0, s1, s2⟩ := hS'
        go_simp
        with_reducible rfl
      rotate_left
      · simp only [Act.put, List.setIfInBounds_toArray, List.set_cons_zero, List.set_cons_succ, i64_w, i32_w]
        rfl
      refine take_ (i := 11) (N := some 23) (v := ?_) (a' := ?_) #[true, true, true, true, true, true, false, false, false, false, true, true, false, false, false, false] rfl rfl (by kernel_rfl) (fun _ _ _ h => h) (Or.inl ⟨by rfl, ?_⟩) hHeld ?_ ?_
      rotate_left
      · rintro w' hS'
        obtain ⟨s0, s1, s2⟩ := hS'
        go_simp
        with_reducible rfl
      rotate_left
      · simp only [Act.put, List.setIfInBounds_toArray, List.set_cons_zero, List.set_cons_succ, i64_w, i32_w]
        rfl
      refine pure_ (i := 12) (N := some 24) (v := ?_) (a' := ?_) #[true, true, true, true, true, true, false, false, false, false, true, true, true, false, false, false] rfl rfl (by kernel_rfl) (fun _ _ _ h => h) (Or.inl ⟨by rfl, ?_⟩) ?_ ?_
      rotate_left
      · intro w'
        go_simp
        with_reducible rfl
      rotate_left
      · simp only [Act.put, List.setIfInBounds_toArray, List.set_cons_zero, List.set_cons_succ, i64_w, i32_w]
        rfl
      refine two_ (i := 6) (j := 14) (Ni := some 18) (Nj := some 5) #[true, true, true, true, true, true, true, false, false, false, true, true, true, false, false, false] #[true, true, true, true, true, true, false, false, false, false, true, true, true, false, true, false] rfl rfl rfl rfl (by kernel_rfl) (by decide) (by decide) (fun K hK => ?_) (fun K hK => ?_)
      · refine slice_step (n := 2) (by rfl) (N := 18) rfl (cs := #[.int .i64 a713, .int .i64 a714]) (t := 3) ?hr ?_
        case hr => first | (go_simp; done) | (go_simp; rfl)
        intro g900 hg w901 hbox hb
        replace HS : Aside0 (Sep (fps []) w [b7 g717 a713 a714 a715 a716, b10 g720 0 0 0 0 0 0 0 0, b11 g900 a713 a714] w901) := ⟨HS.out.box hg hbox hb⟩
        clear hg hbox hb
        refine hK.out _ _ (⟨blk_cellv (HS.out.at0) 2 rfl, blk_cellv (HS.out.at0) 0 rfl, blk_cellv (HS.out.at0) 1 rfl⟩) (fun hHeld => ?_)
        clear hK K
        refine norm_ (a' := ?_) ?_ ?_
        rotate_left
        · show Act.put _ (some 18) _ = _
          simp only [Act.put, List.setIfInBounds_toArray, List.set_cons_zero, List.set_cons_succ, i64_w, i32_w]
          rfl
        refine two_ (i := 7) (j := 14) (Ni := some 19) (Nj := some 5) #[true, true, true, true, true, true, true, true, false, false, true, true, true, false, false, false] #[true, true, true, true, true, true, true, false, false, false, true, true, true, false, true, false] rfl rfl rfl rfl (by kernel_rfl) (by decide) (by decide) (fun K hK => ?_) (fun K hK => ?_)
        · refine goes_ Tryd.func123 (by kernel_rfl) rfl #[.slice (some ⟨g900, 0, none⟩) 2 2] (by rfl) rfl rfl (by (try simp only [List.map_toArray, List.map_cons, List.map_nil]); first | done | rfl) ?_
          refine (ratio_Mul.calls _ [a713, a714] (some ⟨g900, 0, none⟩) 2 t848 _ ⟨Rd.lit (l := []) (rest := [b7 g717 a713 a714 a715 a716, b10 g720 0 0 0 0 0 0 0 0, b11 g900 a713 a714]) (xs := [a713, a714]) HS.out 2 rfl (by simp)⟩ ⟨Gl.pass (l := []) (rest := [b7 g717 a713 a714 a715 a716, b10 g720 0 0 0 0 0 0 0 0, b11 g900 a713 a714]) HGl0.out HS.out⟩ ⟨HS.out.begin (l := []) (rest := [b7 g717 a713 a714 a715 a716, b10 g720 0 0 0 0 0 0 0 0, b11 g900 a713 a714])⟩ HA849).mono ?_
          rintro e_ w904 ⟨rfl, hS⟩
          replace HS : Aside0 (Sep (fps []) w [b7 g717 a713 a714 a715 a716, b10 g720 0 0 0 0 0 0 0 0, b11 g900 a713 a714] w904) := ⟨HS.out.call (l := []) (rest := [b7 g717 a713 a714 a715 a716, b10 g720 0 0 0 0 0 0 0 0, b11 g900 a713 a714]) hS⟩
          clear hS
          refine ⟨_, rfl, ?_⟩
          refine hK.out _ _ (⟨blk_cellv (HS.out.at0) 2 rfl, blk_cellv (HS.out.at0) 0 rfl, blk_cellv (HS.out.at0) 1 rfl⟩) (fun hHeld => ?_)
          clear hK K
          refine norm_ (a' := ?_) ?_ ?_
          rotate_left
          · show Act.put _ (some 19) _ = _
            simp only [Act.put, List.setIfInBounds_toArray, List.set_cons_zero, List.set_cons_succ, i64_w, i32_w]
            rfl
          refine two_ (i := 8) (j := 14) (Ni := some 20) (Nj := some 5) #[true, true, true, true, true, true, true, true, true, false, true, true, true, false, false, false] #[true, true, true, true, true, true, true, true, false, false, true, true, true, false, true, false] rfl rfl rfl rfl (by kernel_rfl) (by decide) (by decide) (fun K hK => ?_) (fun K hK => ?_)
          · refine slice_step (n := 3) (by rfl) (N := 20) rfl (cs := #[.int .i64 24, .int .i64 a715, .int .i64 t848]) (t := 3) ?hr ?_
            case hr => first | (go_simp; done) | (go_simp; rfl)
            intro g905 hg w906 hbox hb
            replace HS : Aside0 (Sep (fps []) w [b7 g717 a713 a714 a715 a716, b10 g720 0 0 0 0 0 0 0 0, b11 g900 a713 a714, b12 g905 24 a715 t848] w906) := ⟨HS.out.box hg hbox hb⟩
            clear hg hbox hb
            refine hK.out _ _ (⟨blk_cellv (HS.out.at0) 2 rfl, blk_cellv (HS.out.at0) 0 rfl, blk_cellv (HS.out.at0) 1 rfl⟩) (fun hHeld => ?_)
            clear hK K
            refine norm_ (a' := ?_) ?_ ?_
            rotate_left
            · show Act.put _ (some 20) _ = _
              simp only [Act.put, List.setIfInBounds_toArray, List.set_cons_zero, List.set_cons_succ, i64_w, i32_w]
              rfl
            refine two_ (i := 9) (j := 14) (Ni := some 21) (Nj := some 5) #[true, true, true, true, true, true, true, true, true, true, true, true, true, false, false, false] #[true, true, true, true, true, true, true, true, true, false, true, true, true, false, true, false] rfl rfl rfl rfl (by kernel_rfl) (by decide) (by decide) (fun K hK => ?_) (fun K hK => ?_)
            · refine goes_ Tryd.func122 (by kernel_rfl) rfl #[.slice (some ⟨g905, 0, none⟩) 3 3] (by rfl) rfl rfl (by (try simp only [List.map_toArray, List.map_cons, List.map_nil]); first | done | rfl) ?_
              refine (ratio_Add.calls _ [24, a715, t848] (some ⟨g905, 0, none⟩) 3 t874 _ ⟨Rd.lit (l := []) (rest := [b7 g717 a713 a714 a715 a716, b10 g720 0 0 0 0 0 0 0 0, b11 g900 a713 a714, b12 g905 24 a715 t848]) (xs := [24, a715, t848]) HS.out 3 rfl (by simp)⟩ ⟨Gl.pass (l := []) (rest := [b7 g717 a713 a714 a715 a716, b10 g720 0 0 0 0 0 0 0 0, b11 g900 a713 a714, b12 g905 24 a715 t848]) HGl0.out HS.out⟩ ⟨HS.out.begin (l := []) (rest := [b7 g717 a713 a714 a715 a716, b10 g720 0 0 0 0 0 0 0 0, b11 g900 a713 a714, b12 g905 24 a715 t848])⟩ HA875).mono ?_
              rintro e_ w909 ⟨rfl, hS⟩
              replace HS : Aside0 (Sep (fps []) w [b7 g717 a713 a714 a715 a716, b10 g720 0 0 0 0 0 0 0 0, b11 g900 a713 a714, b12 g905 24 a715 t848] w909) := ⟨HS.out.call (l := []) (rest := [b7 g717 a713 a714 a715 a716, b10 g720 0 0 0 0 0 0 0 0, b11 g900 a713 a714, b12 g905 24 a715 t848]) hS⟩
              clear hS
              refine ⟨_, rfl, ?_⟩
              refine hK.out _ _ (⟨blk_cellv (HS.out.at0) 2 rfl, blk_cellv (HS.out.at0) 0 rfl, blk_cellv (HS.out.at0) 1 rfl⟩) (fun hHeld => ?_)
              clear hK K
              refine norm_ (a' := ?_) ?_ ?_
              rotate_left
              · show Act.put _ (some 21) _ = _
                simp only [Act.put, List.setIfInBounds_toArray, List.set_cons_zero, List.set_cons_succ, i64_w, i32_w]
                rfl
              refine pure_ (i := 13) (N := some 25) (v := ?_) (a' := ?_) #[true, true, true, true, true, true, true, true, true, true, true, true, true, true, false, false] rfl rfl (by kernel_rfl) (fun _ _ _ h => h) (Or.inl ⟨by rfl, ?_⟩) ?_ ?_
              rotate_left
              · intro w'
                go_simp
                with_reducible rfl
              rotate_left
              · simp only [Act.put, List.setIfInBounds_toArray, List.set_cons_zero, List.set_cons_succ, i64_w, i32_w]
                rfl
              refine one_ (i := 14) (N := some 5) #[true, true, true, true, true, true, true, true, true, true, true, true, true, true, true, false] rfl rfl (by kernel_rfl) (by decide) (fun K hK => ?_)
              refine box_step (by rfl) (N := 5) rfl (cs := #[.int .i64 0, .int .i64 0, .int .i64 0, .int .i64 0, .int .i64 0, .int .i64 0, .int .i64 0, .int .i64 0]) (t := 97) ?hr ?_
              case hr => first | (go_simp; done) | (go_simp; rfl)
              intro g910 hg w911 hbox hb
              replace HS : Aside0 (Sep (fps []) w [b7 g717 a713 a714 a715 a716, b10 g720 0 0 0 0 0 0 0 0, b11 g900 a713 a714, b12 g905 24 a715 t848, b10 g910 0 0 0 0 0 0 0 0] w911) := ⟨HS.out.box hg hbox hb⟩
              clear hg hbox hb
              refine hK.out _ _ (⟨blk_cellv (HS.out.at0) 2 rfl, blk_cellv (HS.out.at0) 0 rfl, blk_cellv (HS.out.at0) 1 rfl⟩) (fun hHeld => ?_)
              clear hK K
              refine norm_ (a' := ?_) ?_ ?_
              rotate_left
              · show Act.put _ (some 5) _ = _
                simp only [Act.put, List.setIfInBounds_toArray, List.set_cons_zero, List.set_cons_succ, i64_w, i32_w]
                rfl
              refine one_ (i := 15) (N := none) #[true, true, true, true, true, true, true, true, true, true, true, true, true, true, true, true] rfl rfl (by kernel_rfl) (by decide) (fun K hK => ?_)
              have hc914 := blk_cellv (v := .int .i64 0) (HS.out.at4) 0 rfl
              have hz915 := blk_fz (HS.out.at4) 0
              have hc916 := blk_cellv (v := .int .i64 0) (HS.out.at4) 1 rfl
              have hz917 := blk_fz (HS.out.at4) 1
              have hc918 := blk_cellv (v := .int .i64 0) (HS.out.at4) 2 rfl
              have hz919 := blk_fz (HS.out.at4) 2
              have hc920 := blk_cellv (v := .int .i64 0) (HS.out.at4) 3 rfl
              have hz921 := blk_fz (HS.out.at4) 3
              have hc922 := blk_cellv (v := .int .i64 0) (HS.out.at4) 4 rfl
              have hz923 := blk_fz (HS.out.at4) 4
              have hc924 := blk_cellv (v := .int .i64 0) (HS.out.at4) 5 rfl
              have hz925 := blk_fz (HS.out.at4) 5
              have hc926 := blk_cellv (v := .int .i64 0) (HS.out.at4) 6 rfl
              have hz927 := blk_fz (HS.out.at4) 6
              have hc928 := blk_cellv (v := .int .i64 0) (HS.out.at4) 7 rfl
              have hz929 := blk_fz (HS.out.at4) 7
              refine store_step (w1 := (World.setCell (World.setCell (World.setCell (World.setCell (World.setCell (World.setCell (World.setCell (World.setCell w911 ⟨g910, 0, none⟩ (.int .i64 t874)) ⟨g910, 1, none⟩ (.int .i64 (wrap64 (a714 - 8)))) ⟨g910, 2, none⟩ (.int .i64 0)) ⟨g910, 3, none⟩ (.int .i64 0)) ⟨g910, 4, none⟩ (.int .i64 0)) ⟨g910, 5, none⟩ (.int .i64 0)) ⟨g910, 6, none⟩ (.int .i64 0)) ⟨g910, 7, none⟩ (.int .i64 0))) (by rfl) rfl ?hr ?_
              case hr => first | (go_simp; done) | (go_simp; rfl)
              clear hc914 hz915 hc916 hz917 hc918 hz919 hc920 hz921 hc922 hz923 hc924 hz925 hc926 hz927 hc928 hz929
              intro w913 hst
              replace HS : Aside0 (Sep (fps []) w [b7 g717 a713 a714 a715 a716, b10 g720 0 0 0 0 0 0 0 0, b11 g900 a713 a714, b12 g905 24 a715 t848, b10 g910 t874 (wrap64 (a714 - 8)) 0 0 0 0 0 0] w913) := ⟨by rw [hst]; exact HS.out.setAll (l1 := [b7 g717 a713 a714 a715 a716, b10 g720 0 0 0 0 0 0 0 0, b11 g900 a713 a714, b12 g905 24 a715 t848]) (l2 := []) [.int .i64 t874, .int .i64 (wrap64 (a714 - 8)), .int .i64 0, .int .i64 0, .int .i64 0, .int .i64 0, .int .i64 0, .int .i64 0] rfl⟩
              clear hst
              refine hK.out _ _ (⟨blk_cellv (HS.out.at0) 2 rfl, blk_cellv (HS.out.at0) 0 rfl, blk_cellv (HS.out.at0) 1 rfl⟩) (fun hHeld => ?_)
              clear hK K
              refine done_ (by kernel_rfl) ?_
              go_wp2_with fail
              go_meet
              case rel => exact ⟨g900, g905, g910, (by first | rfl | (simp [IntKind.wrap_u32]; done)), ⟨(((((HS.out).front 4 (by simp)).front 4 (by simp)).front 4 (by simp)).front 4 (by simp)).front 4 (by simp)⟩⟩
            · refine box_step (by rfl) (N := 5) rfl (cs := #[.int .i64 0, .int .i64 0, .int .i64 0, .int .i64 0, .int .i64 0, .int .i64 0, .int .i64 0, .int .i64 0]) (t := 97) ?hr ?_
              case hr => first | (go_simp; done) | (go_simp; rfl)
              intro g930 hg w931 hbox hb
              replace HS : Aside0 (Sep (fps []) w [b7 g717 a713 a714 a715 a716, b10 g720 0 0 0 0 0 0 0 0, b11 g900 a713 a714, b12 g905 24 a715 t848, b10 g930 0 0 0 0 0 0 0 0] w931) := ⟨HS.out.box hg hbox hb⟩
              clear hg hbox hb
              refine hK.out _ _ (⟨blk_cellv (HS.out.at0) 2 rfl, blk_cellv (HS.out.at0) 0 rfl, blk_cellv (HS.out.at0) 1 rfl⟩) (fun hHeld => ?_)
              clear hK K
              refine norm_ (a' := ?_) ?_ ?_
              rotate_left
              · show Act.put _ (some 5) _ = _
                simp only [Act.put, List.setIfInBounds_toArray, List.set_cons_zero, List.set_cons_succ, i64_w, i32_w]
                rfl
              refine one_ (i := 9) (N := some 21) #[true, true, true, true, true, true, true, true, true, true, true, true, true, false, true, false] rfl rfl (by kernel_rfl) (by decide) (fun K hK => ?_)
              refine goes_ Tryd.func122 (by kernel_rfl) rfl #[.slice (some ⟨g905, 0, none⟩) 3 3] (by rfl) rfl rfl (by (try simp only [List.map_toArray, List.map_cons, List.map_nil]); first | done | rfl) ?_
              refine (ratio_Add.calls _ [24, a715, t848] (some ⟨g905, 0, none⟩) 3 t874 _ ⟨Rd.lit (l := []) (rest := [b7 g717 a713 a714 a715 a716, b10 g720 0 0 0 0 0 0 0 0, b11 g900 a713 a714, b12 g905 24 a715 t848, b10 g930 0 0 0 0 0 0 0 0]) (xs := [24, a715, t848]) HS.out 3 rfl (by simp)⟩ ⟨Gl.pass (l := []) (rest := [b7 g717 a713 a714 a715 a716, b10 g720 0 0 0 0 0 0 0 0, b11 g900 a713 a714, b12 g905 24 a715 t848, b10 g930 0 0 0 0 0 0 0 0]) HGl0.out HS.out⟩ ⟨HS.out.begin (l := []) (rest := [b7 g717 a713 a714 a715 a716, b10 g720 0 0 0 0 0 0 0 0, b11 g900 a713 a714, b12 g905 24 a715 t848, b10 g930 0 0 0 0 0 0 0 0])⟩ HA875).mono ?_
              rintro e_ w934 ⟨rfl, hS⟩
              replace HS : Aside0 (Sep (fps []) w [b7 g717 a713 a714 a715 a716, b10 g720 0 0 0 0 0 0 0 0, b11 g900 a713 a714, b12 g905 24 a715 t848, b10 g930 0 0 0 0 0 0 0 0] w934) := ⟨HS.out.call (l := []) (rest := [b7 g717 a713 a714 a715 a716, b10 g720 0 0 0 0 0 0 0 0, b11 g900 a713 a714, b12 g905 24 a715 t848, b10 g930 0 0 0 0 0 0 0 0]) hS⟩
              clear hS
              refine ⟨_, rfl, ?_⟩
              refine hK.out _ _ (⟨blk_cellv (HS.out.at0) 2 rfl, blk_cellv (HS.out.at0) 0 rfl, blk_cellv (HS.out.at0) 1 rfl⟩) (fun hHeld => ?_)
              clear hK K
              refine norm_ (a' := ?_) ?_ ?_
              rotate_left
              · show Act.put _ (some 21) _ = _
                simp only [Act.put, List.setIfInBounds_toArray, List.set_cons_zero, List.set_cons_succ, i64_w, i32_w]
                rfl
              refine pure_ (i := 13) (N := some 25) (v := ?_) (a' := ?_) #[true, true, true, true, true, true, true, true, true, true, true, true, true, true, true, false] rfl rfl (by kernel_rfl) (fun _ _ _ h => h) (Or.inl ⟨by rfl, ?_⟩) ?_ ?_
              rotate_left
              · intro w'
                go_simp
                with_reducible rfl
              rotate_left
              · simp only [Act.put, List.setIfInBounds_toArray, List.set_cons_zero, List.set_cons_succ, i64_w, i32_w]
                rfl
              refine one_ (i := 15) (N := none) #[true, true, true, true, true, true, true, true, true, true, true, true, true, true, true, true] rfl rfl (by kernel_rfl) (by decide) (fun K hK => ?_)
              have hc936 := blk_cellv (v := .int .i64 0) (HS.out.at4) 0 rfl
              have hz937 := blk_fz (HS.out.at4) 0
              have hc938 := blk_cellv (v := .int .i64 0) (HS.out.at4) 1 rfl
              have hz939 := blk_fz (HS.out.at4) 1
              have hc940 := blk_cellv (v := .int .i64 0) (HS.out.at4) 2 rfl
              have hz941 := blk_fz (HS.out.at4) 2
              have hc942 := blk_cellv (v := .int .i64 0) (HS.out.at4) 3 rfl
              have hz943 := blk_fz (HS.out.at4) 3
              have hc944 := blk_cellv (v := .int .i64 0) (HS.out.at4) 4 rfl
              have hz945 := blk_fz (HS.out.at4) 4
              have hc946 := blk_cellv (v := .int .i64 0) (HS.out.at4) 5 rfl
              have hz947 := blk_fz (HS.out.at4) 5
              have hc948 := blk_cellv (v := .int .i64 0) (HS.out.at4) 6 rfl
              have hz949 := blk_fz (HS.out.at4) 6
              have hc950 := blk_cellv (v := .int .i64 0) (HS.out.at4) 7 rfl
              have hz951 := blk_fz (HS.out.at4) 7
              refine store_step (w1 := (World.setCell (World.setCell (World.setCell (World.setCell (World.setCell (World.setCell (World.setCell (World.setCell w934 ⟨g930, 0, none⟩ (.int .i64 t874)) ⟨g930, 1, none⟩ (.int .i64 (wrap64 (a714 - 8)))) ⟨g930, 2, none⟩ (.int .i64 0)) ⟨g930, 3, none⟩ (.int .i64 0)) ⟨g930, 4, none⟩ (.int .i64 0)) ⟨g930, 5, none⟩ (.int .i64 0)) ⟨g930, 6, none⟩ (.int .i64 0)) ⟨g930, 7, none⟩ (.int .i64 0))) (by rfl) rfl ?hr ?_
              case hr => first | (go_simp; done) | (go_simp; rfl)
              clear hc936 hz937 hc938 hz939 hc940 hz941 hc942 hz943 hc944 hz945 hc946 hz947 hc948 hz949 hc950 hz951
              intro w935 hst
              replace HS : Aside0 (Sep (fps []) w [b7 g717 a713 a714 a715 a716, b10 g720 0 0 0 0 0 0 0 0, b11 g900 a713 a714, b12 g905 24 a715 t848, b10 g930 t874 (wrap64 (a714 - 8)) 0 0 0 0 0 0] w935) := ⟨by rw [hst]; exact HS.out.setAll (l1 := [b7 g717 a713 a714 a715 a716, b10 g720 0 0 0 0 0 0 0 0, b11 g900 a713 a714, b12 g905 24 a715 t848]) (l2 := []) [.int .i64 t874, .int .i64 (wrap64 (a714 - 8)), .int .i64 0, .int .i64 0, .int .i64 0, .int .i64 0, .int .i64 0, .int .i64 0] rfl⟩
              clear hst
              refine hK.out _ _ (⟨blk_cellv (HS.out.at0) 2 rfl, blk_cellv (HS.out.at0) 0 rfl, blk_cellv (HS.out.at0) 1 rfl⟩) (fun hHeld => ?_)
              clear hK K
              refine done_ (by kernel_rfl) ?_
              go_wp2_with fail
              go_meet
              case rel => exact ⟨g900, g905, g930, (by first | rfl | (simp [IntKind.wrap_u32]; done)), ⟨(((((HS.out).front 4 (by simp)).front 4 (by simp)).front 4 (by simp)).front 4 (by simp)).front 4 (by simp)⟩⟩
          · refine box_step (by rfl) (N := 5) rfl (cs := #[.int .i64 0, .int .i64 0, .int .i64 0, .int .i64 0, .int .i64 0, .int .i64 0, .int .i64 0, .int .i64 0]) (t := 97) ?hr ?_
            case hr => first | (go_simp; done) | (go_simp; rfl)
            intro g952 hg w953 hbox hb
            replace HS : Aside0 (Sep (fps []) w [b7 g717 a713 a714 a715 a716, b10 g720 0 0 0 0 0 0 0 0, b11 g900 a713 a714, b10 g952 0 0 0 0 0 0 0 0] w953) := ⟨HS.out.box hg hbox hb⟩
            clear hg hbox hb
            refine hK.out _ _ (⟨blk_cellv (HS.out.at0) 2 rfl, blk_cellv (HS.out.at0) 0 rfl, blk_cellv (HS.out.at0) 1 rfl⟩) (fun hHeld => ?_)
            clear hK K
            refine norm_ (a' := ?_) ?_ ?_
            rotate_left
            · show Act.put _ (some 5) _ = _
              simp only [Act.put, List.setIfInBounds_toArray, List.set_cons_zero, List.set_cons_succ, i64_w, i32_w]
              rfl
            refine one_ (i := 8) (N := some 20) #[true, true, true, true, true, true, true, true, true, false, true, true, true, false, true, false] rfl rfl (by kernel_rfl) (by decide) (fun K hK => ?_)
            refine slice_step (n := 3) (by rfl) (N := 20) rfl (cs := #[.int .i64 24, .int .i64 a715, .int .i64 t848]) (t := 3) ?hr ?_
            case hr => first | (go_simp; done) | (go_simp; rfl)
            intro g955 hg w956 hbox hb
            replace HS : Aside0 (Sep (fps []) w [b7 g717 a713 a714 a715 a716, b10 g720 0 0 0 0 0 0 0 0, b11 g900 a713 a714, b10 g952 0 0 0 0 0 0 0 0, b12 g955 24 a715 t848] w956) := ⟨HS.out.box hg hbox hb⟩
            clear hg hbox hb
            refine hK.out _ _ (⟨blk_cellv (HS.out.at0) 2 rfl, blk_cellv (HS.out.at0) 0 rfl, blk_cellv (HS.out.at0) 1 rfl⟩) (fun hHeld => ?_)
            clear hK K
            refine norm_ (a' := ?_) ?_ ?_
            rotate_left
            · show Act.put _ (some 20) _ = _
              simp only [Act.put, List.setIfInBounds_toArray, List.set_cons_zero, List.set_cons_succ, i64_w, i32_w]
              rfl
            refine one_ (i := 9) (N := some 21) #[true, true, true, true, true, true, true, true, true, true, true, true, true, false, true, false] rfl rfl (by kernel_rfl) (by decide) (fun K hK => ?_)
            refine goes_ Tryd.func122 (by kernel_rfl) rfl #[.slice (some ⟨g955, 0, none⟩) 3 3] (by rfl) rfl rfl (by (try simp only [List.map_toArray, List.map_cons, List.map_nil]); first | done | rfl) ?_
            refine (ratio_Add.calls _ [24, a715, t848] (some ⟨g955, 0, none⟩) 3 t874 _ ⟨Rd.lit (l := []) (rest := [b7 g717 a713 a714 a715 a716, b10 g720 0 0 0 0 0 0 0 0, b11 g900 a713 a714, b10 g952 0 0 0 0 0 0 0 0, b12 g955 24 a715 t848]) (xs := [24, a715, t848]) HS.out 4 rfl (by simp)⟩ ⟨Gl.pass (l := []) (rest := [b7 g717 a713 a714 a715 a716, b10 g720 0 0 0 0 0 0 0 0, b11 g900 a713 a714, b10 g952 0 0 0 0 0 0 0 0, b12 g955 24 a715 t848]) HGl0.out HS.out⟩ ⟨HS.out.begin (l := []) (rest := [b7 g717 a713 a714 a715 a716, b10 g720 0 0 0 0 0 0 0 0, b11 g900 a713 a714, b10 g952 0 0 0 0 0 0 0 0, b12 g955 24 a715 t848])⟩ HA875).mono ?_
            rintro e_ w959 ⟨rfl, hS⟩
            replace HS : Aside0 (Sep (fps []) w [b7 g717 a713 a714 a715 a716, b10 g720 0 0 0 0 0 0 0 0, b11 g900 a713 a714, b10 g952 0 0 0 0 0 0 0 0, b12 g955 24 a715 t848] w959) := ⟨HS.out.call (l := []) (rest := [b7 g717 a713 a714 a715 a716, b10 g720 0 0 0 0 0 0 0 0, b11 g900 a713 a714, b10 g952 0 0 0 0 0 0 0 0, b12 g955 24 a715 t848]) hS⟩
            clear hS
            refine ⟨_, rfl, ?_⟩
            refine hK.out _ _ (⟨blk_cellv (HS.out.at0) 2 rfl, blk_cellv (HS.out.at0) 0 rfl, blk_cellv (HS.out.at0) 1 rfl⟩) (fun hHeld => ?_)
            clear hK K
            refine norm_ (a' := ?_) ?_ ?_
            rotate_left
            · show Act.put _ (some 21) _ = _
              simp only [Act.put, List.setIfInBounds_toArray, List.set_cons_zero, List.set_cons_succ, i64_w, i32_w]
              rfl
            refine pure_ (i := 13) (N := some 25) (v := ?_) (a' := ?_) #[true, true, true, true, true, true, true, true, true, true, true, true, true, true, true, false] rfl rfl (by kernel_rfl) (fun _ _ _ h => h) (Or.inl ⟨by rfl, ?_⟩) ?_ ?_
            rotate_left
            · intro w'
              go_simp
              with_reducible rfl
            rotate_left
            · simp only [Act.put, List.setIfInBounds_toArray, List.set_cons_zero, List.set_cons_succ, i64_w, i32_w]
              rfl
            refine one_ (i := 15) (N := none) #[true, true, true, true, true, true, true, true, true, true, true, true, true, true, true, true] rfl rfl (by kernel_rfl) (by decide) (fun K hK => ?_)
            have hc961 := blk_cellv (v := .int .i64 0) (HS.out.at3) 0 rfl
            have hz962 := blk_fz (HS.out.at3) 0
            have hc963 := blk_cellv (v := .int .i64 0) (HS.out.at3) 1 rfl
            have hz964 := blk_fz (HS.out.at3) 1
            have hc965 := blk_cellv (v := .int .i64 0) (HS.out.at3) 2 rfl
            have hz966 := blk_fz (HS.out.at3) 2
            have hc967 := blk_cellv (v := .int .i64 0) (HS.out.at3) 3 rfl
            have hz968 := blk_fz (HS.out.at3) 3
            have hc969 := blk_cellv (v := .int .i64 0) (HS.out.at3) 4 rfl
            have hz970 := blk_fz (HS.out.at3) 4
            have hc971 := blk_cellv (v := .int .i64 0) (HS.out.at3) 5 rfl
            have hz972 := blk_fz (HS.out.at3) 5
            have hc973 := blk_cellv (v := .int .i64 0) (HS.out.at3) 6 rfl
            have hz974 := blk_fz (HS.out.at3) 6
            have hc975 := blk_cellv (v := .int .i64 0) (HS.out.at3) 7 rfl
            have hz976 := blk_fz (HS.out.at3) 7
            refine store_step (w1 := (World.setCell (World.setCell (World.setCell (World.setCell (World.setCell (World.setCell (World.setCell (World.setCell w959 ⟨g952, 0, none⟩ (.int .i64 t874)) ⟨g952, 1, none⟩ (.int .i64 (wrap64 (a714 - 8)))) ⟨g952, 2, none⟩ (.int .i64 0)) ⟨g952, 3, none⟩ (.int .i64 0)) ⟨g952, 4, none⟩ (.int .i64 0)) ⟨g952, 5, none⟩ (.int .i64 0)) ⟨g952, 6, none⟩ (.int .i64 0)) ⟨g952, 7, none⟩ (.int .i64 0))) (by rfl) rfl ?hr ?_
            case hr => first | (go_simp; done) | (go_simp; rfl)
            clear hc961 hz962 hc963 hz964 hc965 hz966 hc967 hz968 hc969 hz970 hc971 hz972 hc973 hz974 hc975 hz976
            intro w960 hst
            replace HS : Aside0 (Sep (fps []) w [b7 g717 a713 a714 a715 a716, b10 g720 0 0 0 0 0 0 0 0, b11 g900 a713 a714, b10 g952 t874 (wrap64 (a714 - 8)) 0 0 0 0 0 0, b12 g955 24 a715 t848] w960) := ⟨by rw [hst]; exact HS.out.setAll (l1 := [b7 g717 a713 a714 a715 a716, b10 g720 0 0 0 0 0 0 0 0, b11 g900 a713 a714]) (l2 := [b12 g955 24 a715 t848]) [.int .i64 t874, .int .i64 (wrap64 (a714 - 8)), .int .i64 0, .int .i64 0, .int .i64 0, .int .i64 0, .int .i64 0, .int .i64 0] rfl⟩
            clear hst
            refine hK.out _ _ (⟨blk_cellv (HS.out.at0) 2 rfl, blk_cellv (HS.out.at0) 0 rfl, blk_cellv (HS.out.at0) 1 rfl⟩) (fun hHeld => ?_)
            clear hK K
            refine done_ (by kernel_rfl) ?_
            go_wp2_with fail
            go_meet
            case rel => exact ⟨g900, g955, g952, (by first | rfl | (simp [IntKind.wrap_u32]; done)), ⟨(((((HS.out).front 3 (by simp)).front 4 (by simp)).front 4 (by simp)).front 4 (by simp)).front 4 (by simp)⟩⟩
        · refine box_step (by rfl) (N := 5) rfl (cs := #[.int .i64 0, .int .i64 0, .int .i64 0, .int .i64 0, .int .i64 0, .int .i64 0, .int .i64 0, .int .i64 0]) (t := 97) ?hr ?_
          case hr => first | (go_simp; done) | (go_simp; rfl)
          intro g977 hg w978 hbox hb
          replace HS : Aside0 (Sep (fps []) w [b7 g717 a713 a714 a715 a716, b10 g720 0 0 0 0 0 0 0 0, b11 g900 a713 a714, b10 g977 0 0 0 0 0 0 0 0] w978) := ⟨HS.out.box hg hbox hb⟩
          clear hg hbox hb
          refine hK.out _ _ (⟨blk_cellv (HS.out.at0) 2 rfl, blk_cellv (HS.out.at0) 0 rfl, blk_cellv (HS.out.at0) 1 rfl⟩) (fun hHeld => ?_)
          clear hK K
          refine norm_ (a' := ?_) ?_ ?_
          rotate_left
          · show Act.put _ (some 5) _ = _
            simp only [Act.put, List.setIfInBounds_toArray, List.set_cons_zero, List.set_cons_succ, i64_w, i32_w]
            rfl
          refine one_ (i := 7) (N := some 19) #[true, true, true, true, true, true, true, true, false, false, true, true, true, false, true, false] rfl rfl (by kernel_rfl) (by decide) (fun K hK => ?_)
          refine goes_ Tryd.func123 (by kernel_rfl) rfl #[.slice (some ⟨g900, 0, none⟩) 2 2] (by rfl) rfl rfl (by (try simp only [List.map_toArray, List.map_cons, List.map_nil]); first | done | rfl) ?_
          refine (ratio_Mul.calls _ [a713, a714] (some ⟨g900, 0, none⟩) 2 t848 _ ⟨Rd.lit (l := []) (rest := [b7 g717 a713 a714 a715 a716, b10 g720 0 0 0 0 0 0 0 0, b11 g900 a713 a714, b10 g977 0 0 0 0 0 0 0 0]) (xs := [a713, a714]) HS.out 2 rfl (by simp)⟩ ⟨Gl.pass (l := []) (rest := [b7 g717 a713 a714 a715 a716, b10 g720 0 0 0 0 0 0 0 0, b11 g900 a713 a714, b10 g977 0 0 0 0 0 0 0 0]) HGl0.out HS.out⟩ ⟨HS.out.begin (l := []) (rest := [b7 g717 a713 a714 a715 a716, b10 g720 0 0 0 0 0 0 0 0, b11 g900 a713 a714, b10 g977 0 0 0 0 0 0 0 0])⟩ HA849).mono ?_
          rintro e_ w981 ⟨rfl, hS⟩
          replace HS : Aside0 (Sep (fps []) w [b7 g717 a713 a714 a715 a716, b10 g720 0 0 0 0 0 0 0 0, b11 g900 a713 a714, b10 g977 0 0 0 0 0 0 0 0] w981) := ⟨HS.out.call (l := []) (rest := [b7 g717 a713 a714 a715 a716, b10 g720 0 0 0 0 0 0 0 0, b11 g900 a713 a714, b10 g977 0 0 0 0 0 0 0 0]) hS⟩
          clear hS
          refine ⟨_, rfl, ?_⟩
          refine hK.out _ _ (⟨blk_cellv (HS.out.at0) 2 rfl, blk_cellv (HS.out.at0) 0 rfl, blk_cellv (HS.out.at0) 1 rfl⟩) (fun hHeld => ?_)
          clear hK K
          refine norm_ (a' := ?_) ?_ ?_
          rotate_left
          · show Act.put _ (some 19) _ = _
            simp only [Act.put, List.setIfInBounds_toArray, List.set_cons_zero, List.set_cons_succ, i64_w, i32_w]
            rfl
          refine one_ (i := 8) (N := some 20) #[true, true, true, true, true, true, true, true, true, false, true, true, true, false, true, false] rfl rfl (by kernel_rfl) (by decide) (fun K hK => ?_)
          refine slice_step (n := 3) (by rfl) (N := 20) rfl (cs := #[.int .i64 24, .int .i64 a715, .int .i64 t848]) (t := 3) ?hr ?_
          case hr => first | (go_simp; done) | (go_simp; rfl)
          intro g982 hg w983 hbox hb
          replace HS : Aside0 (Sep (fps []) w [b7 g717 a713 a714 a715 a716, b10 g720 0 0 0 0 0 0 0 0, b11 g900 a713 a714, b10 g977 0 0 0 0 0 0 0 0, b12 g982 24 a715 t848] w983) := ⟨HS.out.box hg hbox hb⟩
          clear hg hbox hb
          refine hK.out _ _ (⟨blk_cellv (HS.out.at0) 2 rfl, blk_cellv (HS.out.at0) 0 rfl, blk_cellv (HS.out.at0) 1 rfl⟩) (fun hHeld => ?_)
          clear hK K
          refine norm_ (a' := ?_) ?_ ?_
          rotate_left
          · show Act.put _ (some 20) _ = _
            simp only [Act.put, List.setIfInBounds_toArray, List.set_cons_zero, List.set_cons_succ, i64_w, i32_w]
            rfl
          refine one_ (i := 9) (N := some 21) #[true, true, true, true, true, true, true, true, true, true, true, true, true, false, true, false] rfl rfl (by kernel_rfl) (by decide) (fun K hK => ?_)
          refine goes_ Tryd.func122 (by kernel_rfl) rfl #[.slice (some ⟨g982, 0, none⟩) 3 3] (by rfl) rfl rfl (by (try simp only [List.map_toArray, List.map_cons, List.map_nil]); first | done | rfl) ?_
          refine (ratio_Add.calls _ [24, a715, t848] (some ⟨g982, 0, none⟩) 3 t874 _ ⟨Rd.lit (l := []) (rest := [b7 g717 a713 a714 a715 a716, b10 g720 0 0 0 0 0 0 0 0, b11 g900 a713 a714, b10 g977 0 0 0 0 0 0 0 0, b12 g982 24 a715 t848]) (xs := [24, a715, t848]) HS.out 4 rfl (by simp)⟩ ⟨Gl.pass (l := []) (rest := [b7 g717 a713 a714 a715 a716, b10 g720 0 0 0 0 0 0 0 0, b11 g900 a713 a714, b10 g977 0 0 0 0 0 0 0 0, b12 g982 24 a715 t848]) HGl0.out HS.out⟩ ⟨HS.out.begin (l := []) (rest := [b7 g717 a713 a714 a715 a716, b10 g720 0 0 0 0 0 0 0 0, b11 g900 a713 a714, b10 g977 0 0 0 0 0 0 0 0, b12 g982 24 a715 t848])⟩ HA875).mono ?_
          rintro e_ w986 ⟨rfl, hS⟩
          replace HS : Aside0 (Sep (fps []) w [b7 g717 a713 a714 a715 a716, b10 g720 0 0 0 0 0 0 0 0, b11 g900 a713 a714, b10 g977 0 0 0 0 0 0 0 0, b12 g982 24 a715 t848] w986) := ⟨HS.out.call (l := []) (rest := [b7 g717 a713 a714 a715 a716, b10 g720 0 0 0 0 0 0 0 0, b11 g900 a713 a714, b10 g977 0 0 0 0 0 0 0 0, b12 g982 24 a715 t848]) hS⟩
          clear hS
          refine ⟨_, rfl, ?_⟩
          refine hK.out _ _ (⟨blk_cellv (HS.out.at0) 2 rfl, blk_cellv (HS.out.at0) 0 rfl, blk_cellv (HS.out.at0) 1 rfl⟩) (fun hHeld => ?_)
          clear hK K
          refine norm_ (a' := ?_) ?_ ?_
          rotate_left
          · show Act.put _ (some 21) _ = _
            simp only [Act.put, List.setIfInBounds_toArray, List.set_cons_zero, List.set_cons_succ, i64_w, i32_w]
            rfl
          refine pure_ (i := 13) (N := some 25) (v := ?_) (a' := ?_) #[true, true, true, true, true, true, true, true, true, true, true, true, true, true, true, false] rfl rfl (by kernel_rfl) (fun _ _ _ h => h) (Or.inl ⟨by rfl, ?_⟩) ?_ ?_
          rotate_left
          · intro w'
            go_simp
            with_reducible rfl
          rotate_left
          · simp only [Act.put, List.setIfInBounds_toArray, List.set_cons_zero, List.set_cons_succ, i64_w, i32_w]
            rfl
          refine one_ (i := 15) (N := none) #[true, true, true, true, true, true, true, true, true, true, true, true, true, true, true, true] rfl rfl (by kernel_rfl) (by decide) (fun K hK => ?_)
          have hc988 := blk_cellv (v := .int .i64 0) (HS.out.at3) 0 rfl
          have hz989 := blk_fz (HS.out.at3) 0
          have hc990 := blk_cellv (v := .int .i64 0) (HS.out.at3) 1 rfl
          have hz991 := blk_fz (HS.out.at3) 1
          have hc992 := blk_cellv (v := .int .i64 0) (HS.out.at3) 2 rfl
          have hz993 := blk_fz (HS.out.at3) 2
          have hc994 := blk_cellv (v := .int .i64 0) (HS.out.at3) 3 rfl
          have hz995 := blk_fz (HS.out.at3) 3
          have hc996 := blk_cellv (v := .int .i64 0) (HS.out.at3) 4 rfl
          have hz997 := blk_fz (HS.out.at3) 4
          have hc998 := blk_cellv (v := .int .i64 0) (HS.out.at3) 5 rfl
          have hz999 := blk_fz (HS.out.at3) 5
          have hc1000 := blk_cellv (v := .int .i64 0) (HS.out.at3) 6 rfl
          have hz1001 := blk_fz (HS.out.at3) 6
          have hc1002 := blk_cellv (v := .int .i64 0) (HS.out.at3) 7 rfl
          have hz1003 := blk_fz (HS.out.at3) 7
          refine store_step (w1 := (World.setCell (World.setCell (World.setCell (World.setCell (World.setCell (World.setCell (World.setCell (World.setCell w986 ⟨g977, 0, none⟩ (.int .i64 t874)) ⟨g977, 1, none⟩ (.int .i64 (wrap64 (a714 - 8)))) ⟨g977, 2, none⟩ (.int .i64 0)) ⟨g977, 3, none⟩ (.int .i64 0)) ⟨g977, 4, none⟩ (.int .i64 0)) ⟨g977, 5, none⟩ (.int .i64 0)) ⟨g977, 6, none⟩ (.int .i64 0)) ⟨g977, 7, none⟩ (.int .i64 0))) (by rfl) rfl ?hr ?_
          case hr => first | (go_simp; done) | (go_simp; rfl)
          clear hc988 hz989 hc990 hz991 hc992 hz993 hc994 hz995 hc996 hz997 hc998 hz999 hc1000 hz1001 hc1002 hz1003
          intro w987 hst
          replace HS : Aside0 (Sep (fps []) w [b7 g717 a713 a714 a715 a716, b10 g720 0 0 0 0 0 0 0 0, b11 g900 a713 a714, b10 g977 t874 (wrap64 (a714 - 8)) 0 0 0 0 0 0, b12 g982 24 a715 t848] w987) := ⟨by rw [hst]; exact HS.out.setAll (l1 := [b7 g717 a713 a714 a715 a716, b10 g720 0 0 0 0 0 0 0 0, b11 g900 a713 a714]) (l2 := [b12 g982 24 a715 t848]) [.int .i64 t874, .int .i64 (wrap64 (a714 - 8)), .int .i64 0, .int .i64 0, .int .i64 0, .int .i64 0, .int .i64 0, .int .i64 0] rfl⟩
          clear hst
          refine hK.out _ _ (⟨blk_cellv (HS.out.at0) 2 rfl, blk_cellv (HS.out.at0) 0 rfl, blk_cellv (HS.out.at0) 1 rfl⟩) (fun hHeld => ?_)
          clear hK K
          refine done_ (by kernel_rfl) ?_
          go_wp2_with fail
          go_meet
          case rel => exact ⟨g900, g982, g977, (by first | rfl | (simp [IntKind.wrap_u32]; done)), ⟨(((((HS.out).front 3 (by simp)).front 4 (by simp)).front 4 (by simp)).front 4 (by simp)).front 4 (by simp)⟩⟩
      · refine box_step (by rfl) (N := 5) rfl (cs := #[.int .i64 0, .int .i64 0, .int .i64 0, .int .i64 0, .int .i64 0, .int .i64 0, .int .i64 0, .int .i64 0]) (t := 97) ?hr ?_
        case hr => first | (go_simp; done) | (go_simp; rfl)
        intro g1004 hg w1005 hbox hb
        replace HS : Aside0 (Sep (fps []) w [b7 g717 a713 a714 a715 a716, b10 g720 0 0 0 0 0 0 0 0, b10 g1004 0 0 0 0 0 0 0 0] w1005) := ⟨HS.out.box hg hbox hb⟩
        clear hg hbox hb
        refine hK.out _ _ (⟨blk_cellv (HS.out.at0) 2 rfl, blk_cellv (HS.out.at0) 0 rfl, blk_cellv (HS.out.at0) 1 rfl⟩) (fun hHeld => ?_)
        clear hK K
        refine norm_ (a' := ?_) ?_ ?_
        rotate_left
        · show Act.put _ (some 5) _ = _
          simp only [Act.put, List.setIfInBounds_toArray, List.set_cons_zero, List.set_cons_succ, i64_w, i32_w]
          rfl
        refine one_ (i := 6) (N := some 18) #[true, true, true, true, true, true, true, false, false, false, true, true, true, false, true, false] rfl rfl (by kernel_rfl) (by decide) (fun K hK => ?_)
        refine slice_step (n := 2) (by rfl) (N := 18) rfl (cs := #[.int .i64 a713, .int .i64 a714]) (t := 3) ?hr ?_
        case hr => first | (go_simp; done) | (go_simp; rfl)
        intro g1007 hg w1008 hbox hb
        replace HS : Aside0 (Sep (fps []) w [b7 g717 a713 a714 a715 a716, b10 g720 0 0 0 0 0 0 0 0, b10 g1004 0 0 0 0 0 0 0 0, b11 g1007 a713 a714] w1008) := ⟨HS.out.box hg hbox hb⟩
        clear hg hbox hb
        refine hK.out _ _ (⟨blk_cellv (HS.out.at0) 2 rfl, blk_cellv (HS.out.at0) 0 rfl, blk_cellv (HS.out.at0) 1 rfl⟩) (fun hHeld => ?_)
        clear hK K
        refine norm_ (a' := ?_) ?_ ?_
        rotate_left
        · show Act.put _ (some 18) _ = _
          simp only [Act.put, List.setIfInBounds_toArray, List.set_cons_zero, List.set_cons_succ, i64_w, i32_w]
          rfl
        refine one_ (i := 7) (N := some 19) #[true, true, true, true, true, true, true, true, false, false, true, true, true, false, true, false] rfl rfl (by kernel_rfl) (by decide) (fun K hK => ?_)
        refine goes_ Tryd.func123 (by kernel_rfl) rfl #[.slice (some ⟨g1007, 0, none⟩) 2 2] (by rfl) rfl rfl (by (try simp only [List.map_toArray, List.map_cons, List.map_nil]); first | done | rfl) ?_
        refine (ratio_Mul.calls _ [a713, a714] (some ⟨g1007, 0, none⟩) 2 t848 _ ⟨Rd.lit (l := []) (rest := [b7 g717 a713 a714 a715 a716, b10 g720 0 0 0 0 0 0 0 0, b10 g1004 0 0 0 0 0 0 0 0, b11 g1007 a713 a714]) (xs := [a713, a714]) HS.out 3 rfl (by simp)⟩ ⟨Gl.pass (l := []) (rest := [b7 g717 a713 a714 a715 a716, b10 g720 0 0 0 0 0 0 0 0, b10 g1004 0 0 0 0 0 0 0 0, b11 g1007 a713 a714]) HGl0.out HS.out⟩ ⟨HS.out.begin (l := []) (rest := [b7 g717 a713 a714 a715 a716, b10 g720 0 0 0 0 0 0 0 0, b10 g1004 0 0 0 0 0 0 0 0, b11 g1007 a713 a714])⟩ HA849).mono ?_
        rintro e_ w1011 ⟨rfl, hS⟩
        replace HS : Aside0 (Sep (fps []) w [b7 g717 a713 a714 a715 a716, b10 g720 0 0 0 0 0 0 0 0, b10 g1004 0 0 0 0 0 0 0 0, b11 g1007 a713 a714] w1011) := ⟨HS.out.call (l := []) (rest := [b7 g717 a713 a714 a715 a716, b10 g720 0 0 0 0 0 0 0 0, b10 g1004 0 0 0 0 0 0 0 0, b11 g1007 a713 a714]) hS⟩
        clear hS
        refine ⟨_, rfl, ?_⟩
        refine hK.out _ _ (⟨blk_cellv (HS.out.at0) 2 rfl, blk_cellv (HS.out.at0) 0 rfl, blk_cellv (HS.out.at0) 1 rfl⟩) (fun hHeld => ?_)
        clear hK K
        refine norm_ (a' := ?_) ?_ ?_
        rotate_left
        · show Act.put _ (some 19) _ = _
          simp only [Act.put, List.setIfInBounds_toArray, List.set_cons_zero, List.set_cons_succ, i64_w, i32_w]
          rfl
        refine one_ (i := 8) (N := some 20) #[true, true, true, true, true, true, true, true, true, false, true, true, true, false, true, false] rfl rfl (by kernel_rfl) (by decide) (fun K hK => ?_)
        refine slice_step (n := 3) (by rfl) (N := 20) rfl (cs := #[.int .i64 24, .int .i64 a715, .int .i64 t848]) (t := 3) ?hr ?_
        case hr => first | (go_simp; done) | (go_simp; rfl)
        intro g1012 hg w1013 hbox hb
        replace HS : Aside0 (Sep (fps []) w [b7 g717 a713 a714 a715 a716, b10 g720 0 0 0 0 0 0 0 0, b10 g1004 0 0 0 0 0 0 0 0, b11 g1007 a713 a714, b12 g1012 24 a715 t848] w1013) := ⟨HS.out.box hg hbox hb⟩
        clear hg hbox hb
        refine hK.out _ _ (⟨blk_cellv (HS.out.at0) 2 rfl, blk_cellv (HS.out.at0) 0 rfl, blk_cellv (HS.out.at0) 1 rfl⟩) (fun hHeld => ?_)
        clear hK K
        refine norm_ (a' := ?_) ?_ ?_
        rotate_left
        · show Act.put _ (some 20) _ = _
          simp only [Act.put, List.setIfInBounds_toArray, List.set_cons_zero, List.set_cons_succ, i64_w, i32_w]
          rfl
        refine one_ (i := 9) (N := some 21) #[true, true, true, true, true, true, true, true, true, true, true, true, true, false, true, false] rfl rfl (by kernel_rfl) (by decide) (fun K hK => ?_)
        refine goes_ Tryd.func122 (by kernel_rfl) rfl #[.slice (some ⟨g1012, 0, none⟩) 3 3] (by rfl) rfl rfl (by (try simp only [List.map_toArray, List.map_cons, List.map_nil]); first | done | rfl) ?_
        refine (ratio_Add.calls _ [24, a715, t848] (some ⟨g1012, 0, none⟩) 3 t874 _ ⟨Rd.lit (l := []) (rest := [b7 g717 a713 a714 a715 a716, b10 g720 0 0 0 0 0 0 0 0, b10 g1004 0 0 0 0 0 0 0 0, b11 g1007 a713 a714, b12 g1012 24 a715 t848]) (xs := [24, a715, t848]) HS.out 4 rfl (by simp)⟩ ⟨Gl.pass (l := []) (rest := [b7 g717 a713 a714 a715 a716, b10 g720 0 0 0 0 0 0 0 0, b10 g1004 0 0 0 0 0 0 0 0, b11 g1007 a713 a714, b12 g1012 24 a715 t848]) HGl0.out HS.out⟩ ⟨HS.out.begin (l := []) (rest := [b7 g717 a713 a714 a715 a716, b10 g720 0 0 0 0 0 0 0 0, b10 g1004 0 0 0 0 0 0 0 0, b11 g1007 a713 a714, b12 g1012 24 a715 t848])⟩ HA875).mono ?_
        rintro e_ w1016 ⟨rfl, hS⟩
        replace HS : Aside0 (Sep (fps []) w [b7 g717 a713 a714 a715 a716, b10 g720 0 0 0 0 0 0 0 0, b10 g1004 0 0 0 0 0 0 0 0, b11 g1007 a713 a714, b12 g1012 24 a715 t848] w1016) := ⟨HS.out.call (l := []) (rest := [b7 g717 a713 a714 a715 a716, b10 g720 0 0 0 0 0 0 0 0, b10 g1004 0 0 0 0 0 0 0 0, b11 g1007 a713 a714, b12 g1012 24 a715 t848]) hS⟩
        clear hS
        refine ⟨_, rfl, ?_⟩
        refine hK.out _ _ (⟨blk_cellv (HS.out.at0) 2 rfl, blk_cellv (HS.out.at0) 0 rfl, blk_cellv (HS.out.at0) 1 rfl⟩) (fun hHeld => ?_)
        clear hK K
        refine norm_ (a' := ?_) ?_ ?_
        rotate_left
        · show Act.put _ (some 21) _ = _
          simp only [Act.put, List.setIfInBounds_toArray, List.set_cons_zero, List.set_cons_succ, i64_w, i32_w]
          rfl
        refine pure_ (i := 13) (N := some 25) (v := ?_) (a' := ?_) #[true, true, true, true, true, true, true, true, true, true, true, true, true, true, true, false] rfl rfl (by kernel_rfl) (fun _ _ _ h => h) (Or.inl ⟨by rfl, ?_⟩) ?_ ?_
        rotate_left
        · intro w'
          go_simp
          with_reducible rfl
        rotate_left
        · simp only [Act.put, List.setIfInBounds_toArray, List.set_cons_zero, List.set_cons_succ, i64_w, i32_w]
          rfl
        refine one_ (i := 15) (N := none) #[true, true, true, true, true, true, true, true, true, true, true, true, true, true, true, true] rfl rfl (by kernel_rfl) (by decide) (fun K hK => ?_)
        have hc1018 := blk_cellv (v := .int .i64 0) (HS.out.at2) 0 rfl
        have hz1019 := blk_fz (HS.out.at2) 0
        have hc1020 := blk_cellv (v := .int .i64 0) (HS.out.at2) 1 rfl
        have hz1021 := blk_fz (HS.out.at2) 1
        have hc1022 := blk_cellv (v := .int .i64 0) (HS.out.at2) 2 rfl
        have hz1023 := blk_fz (HS.out.at2) 2
        have hc1024 := blk_cellv (v := .int .i64 0) (HS.out.at2) 3 rfl
        have hz1025 := blk_fz (HS.out.at2) 3
        have hc1026 := blk_cellv (v := .int .i64 0) (HS.out.at2) 4 rfl
        have hz1027 := blk_fz (HS.out.at2) 4
        have hc1028 := blk_cellv (v := .int .i64 0) (HS.out.at2) 5 rfl
        have hz1029 := blk_fz (HS.out.at2) 5
        have hc1030 := blk_cellv (v := .int .i64 0) (HS.out.at2) 6 rfl
        have hz1031 := blk_fz (HS.out.at2) 6
        have hc1032 := blk_cellv (v := .int .i64 0) (HS.out.at2) 7 rfl
        have hz1033 := blk_fz (HS.out.at2) 7
        refine store_step (w1 := (World.setCell (World.setCell (World.setCell (World.setCell (World.setCell (World.setCell (World.setCell (World.setCell w1016 ⟨g1004, 0, none⟩ (.int .i64 t874)) ⟨g1004, 1, none⟩ (.int .i64 (wrap64 (a714 - 8)))) ⟨g1004, 2, none⟩ (.int .i64 0)) ⟨g1004, 3, none⟩ (.int .i64 0)) ⟨g1004, 4, none⟩ (.int .i64 0)) ⟨g1004, 5, none⟩ (.int .i64 0)) ⟨g1004, 6, none⟩ (.int .i64 0)) ⟨g1004, 7, none⟩ (.int .i64 0))) (by rfl) rfl ?hr ?_
        case hr => first | (go_simp; done) | (go_simp; rfl)
        clear hc1018 hz1019 hc1020 hz1021 hc1022 hz1023 hc1024 hz1025 hc1026 hz1027 hc1028 hz1029 hc1030 hz1031 hc1032 hz1033
        intro w1017 hst
        replace HS : Aside0 (Sep (fps []) w [b7 g717 a713 a714 a715 a716, b10 g720 0 0 0 0 0 0 0 0, b10 g1004 t874 (wrap64 (a714 - 8)) 0 0 0 0 0 0, b11 g1007 a713 a714, b12 g1012 24 a715 t848] w1017) := ⟨by rw [hst]; exact HS.out.setAll (l1 := [b7 g717 a713 a714 a715 a716, b10 g720 0 0 0 0 0 0 0 0]) (l2 := [b11 g1007 a713 a714, b12 g1012 24 a715 t848]) [.int .i64 t874, .int .i64 (wrap64 (a714 - 8)), .int .i64 0, .int .i64 0, .int .i64 0, .int .i64 0, .int .i64 0, .int .i64 0] rfl⟩
        clear hst
        refine hK.out _ _ (⟨blk_cellv (HS.out.at0) 2 rfl, blk_cellv (HS.out.at0) 0 rfl, blk_cellv (HS.out.at0) 1 rfl⟩) (fun hHeld => ?_)
        clear hK K
        refine done_ (by kernel_rfl) ?_
        go_wp2_with fail
        go_meet
        case rel => exact ⟨g1007, g1012, g1004, (by first | rfl | (simp [IntKind.wrap_u32]; done)), ⟨(((((HS.out).front 2 (by simp)).front 4 (by simp)).front 4 (by simp)).front 4 (by simp)).front 4 (by simp)⟩⟩
    case rest =>
      clear HS
      obtain ⟨g774, g851, g877, rfl, HS⟩ := hcut
      obtain ⟨w897, rfl⟩ : ∃ x : World, x = wc := ⟨_, rfl⟩
      replace HS : Aside0 (Sep (fps []) w [b7 g717 a713 a714 a715 a716, b10 g720 0 0 0 0 0 0 0 0, b10 g877 t874 (wrap64 (a714 - 8)) 0 0 0 0 0 0] w897) := ⟨HS.out.sub (.cons_cons _ (.cons_cons _ (.cons _ (.cons _ (.cons_cons _ .slnil)))))⟩
      have hc1034 : w897.cell? ⟨g877, 1, none⟩ = some (.int .i64 (wrap64 (a714 - 8))) := blk_cellv (HS.out.at2) 1 rfl
      have hc1035 : w897.cell? ⟨g877, 2, none⟩ = some (.int .i64 0) := blk_cellv (HS.out.at2) 2 rfl
      have hz1036 : w897.frozen? ⟨g877, 2, none⟩ = false := blk_fz (HS.out.at2) 2
      go_wp2_with (first | ((with_reducible refine gate_store (t := 3) (p := 29) rfl ?_); refine store_event (w1 := (World.setCell w897 ⟨g877, 2, none⟩ (.int .i64 (wrap64 ((wrap64 (a714 - 8)) + 1))))) rfl (t := 3) (p := 29) rfl rfl ?hr ?_; (case hr => first | (go_simp; done) | (go_simp; rfl)); intro w1037 hst; clear hc1034 hc1035 hz1036; have hq0 : Sep (fps []) w [b7 g717 a713 a714 a715 a716, b10 g720 0 0 0 0 0 0 0 0, b10 g877 t874 (wrap64 (a714 - 8)) (wrap64 ((wrap64 (a714 - 8)) + 1)) 0 0 0 0 0] (World.setCell w897 ⟨g877, 2, none⟩ (.int .i64 (wrap64 ((wrap64 (a714 - 8)) + 1)))) := (HS.out).set1 (l1 := [b7 g717 a713 a714 a715 a716, b10 g720 0 0 0 0 0 0 0 0]) (l2 := []) 2 (.int .i64 (wrap64 ((wrap64 (a714 - 8)) + 1))); replace HS : Aside0 (Sep (fps []) w [b7 g717 a713 a714 a715 a716, b10 g720 0 0 0 0 0 0 0 0, b10 g877 t874 (wrap64 (a714 - 8)) (wrap64 ((wrap64 (a714 - 8)) + 1)) 0 0 0 0 0] w1037) := ⟨by rw [hst]; exact hq0⟩; clear hq0; clear hst; have hc1038 : w1037.cell? ⟨g877, 1, none⟩ = some (.int .i64 (wrap64 (a714 - 8))) := blk_cellv (HS.out.at2) 1 rfl; have hc1039 : w1037.cell? ⟨g717, 1, none⟩ = some (.int .i64 a714) := blk_cellv (HS.out.at0) 1 rfl) | ((with_reducible refine gate_dst (N := 35) rfl ?_); refine slice_on (n := 2) ?hg (N := 35) ?hd (cs := #[.int .i64 (wrap64 (a714 - 8)), .int .i64 (wrap64 (a714 - 1))]) (t := 3) ?hr ?_; (case hd => rfl); (case hg => rfl); (case hr => first | (go_simp; done) | (go_simp; rfl)); intro g1040 hg w1041 hbox hb; clear hc1038 hc1039; replace HS : Aside0 (Sep (fps []) w [b7 g717 a713 a714 a715 a716, b10 g720 0 0 0 0 0 0 0 0, b10 g877 t874 (wrap64 (a714 - 8)) (wrap64 ((wrap64 (a714 - 8)) + 1)) 0 0 0 0 0, b11 g1040 (wrap64 (a714 - 8)) (wrap64 (a714 - 1))] w1041) := ⟨HS.out.box hg hbox hb⟩; clear hg hbox hb))
      obtain ⟨t1043, HA1044, H⟩ := bind_some H
      refine (ratio_Mul.calls _ [wrap64 (a714 - 8), wrap64 (a714 - 1)] (some ⟨g1040, 0, none⟩) 2 t1043 _ ⟨Rd.lit (l := []) (rest := [b7 g717 a713 a714 a715 a716, b10 g720 0 0 0 0 0 0 0 0, b10 g877 t874 (wrap64 (a714 - 8)) (wrap64 ((wrap64 (a714 - 8)) + 1)) 0 0 0 0 0, b11 g1040 (wrap64 (a714 - 8)) (wrap64 (a714 - 1))]) (xs := [wrap64 (a714 - 8), wrap64 (a714 - 1)]) HS.out 3 rfl (by simp)⟩ ⟨Gl.pass (l := []) (rest := [b7 g717 a713 a714 a715 a716, b10 g720 0 0 0 0 0 0 0 0, b10 g877 t874 (wrap64 (a714 - 8)) (wrap64 ((wrap64 (a714 - 8)) + 1)) 0 0 0 0 0, b11 g1040 (wrap64 (a714 - 8)) (wrap64 (a714 - 1))]) HGl0.out HS.out⟩ ⟨HS.out.begin (l := []) (rest := [b7 g717 a713 a714 a715 a716, b10 g720 0 0 0 0 0 0 0 0, b10 g877 t874 (wrap64 (a714 - 8)) (wrap64 ((wrap64 (a714 - 8)) + 1)) 0 0 0 0 0, b11 g1040 (wrap64 (a714 - 8)) (wrap64 (a714 - 1))])⟩ HA1044).mono ?_
      rintro e_ w1045 ⟨rfl, hS⟩
      replace HS : Aside0 (Sep (fps []) w [b7 g717 a713 a714 a715 a716, b10 g720 0 0 0 0 0 0 0 0, b10 g877 t874 (wrap64 (a714 - 8)) (wrap64 ((wrap64 (a714 - 8)) + 1)) 0 0 0 0 0, b11 g1040 (wrap64 (a714 - 8)) (wrap64 (a714 - 1))] w1045) := ⟨HS.out.call (l := []) (rest := [b7 g717 a713 a714 a715 a716, b10 g720 0 0 0 0 0 0 0 0, b10 g877 t874 (wrap64 (a714 - 8)) (wrap64 ((wrap64 (a714 - 8)) + 1)) 0 0 0 0 0, b11 g1040 (wrap64 (a714 - 8)) (wrap64 (a714 - 1))]) hS⟩
      clear hS
      have hc1046 : w1045.cell? ⟨g877, 3, none⟩ = some (.int .i64 0) := blk_cellv (HS.out.at2) 3 rfl
      have hz1047 : w1045.frozen? ⟨g877, 3, none⟩ = false := blk_fz (HS.out.at2) 3
      go_wp2_with (first | ((with_reducible refine gate_store (t := 3) (p := 37) rfl ?_); refine store_event (w1 := (World.setCell w1045 ⟨g877, 3, none⟩ (.int .i64 t1043))) rfl (t := 3) (p := 37) rfl rfl ?hr ?_; (case hr => first | (go_simp; done) | (go_simp; rfl)); intro w1048 hst; clear hc1046 hz1047; have hq0 : Sep (fps []) w [b7 g717 a713 a714 a715 a716, b10 g720 0 0 0 0 0 0 0 0, b10 g877 t874 (wrap64 (a714 - 8)) (wrap64 ((wrap64 (a714 - 8)) + 1)) t1043 0 0 0 0, b11 g1040 (wrap64 (a714 - 8)) (wrap64 (a714 - 1))] (World.setCell w1045 ⟨g877, 3, none⟩ (.int .i64 t1043)) := (HS.out).set1 (l1 := [b7 g717 a713 a714 a715 a716, b10 g720 0 0 0 0 0 0 0 0]) (l2 := [b11 g1040 (wrap64 (a714 - 8)) (wrap64 (a714 - 1))]) 3 (.int .i64 t1043); replace HS : Aside0 (Sep (fps []) w [b7 g717 a713 a714 a715 a716, b10 g720 0 0 0 0 0 0 0 0, b10 g877 t874 (wrap64 (a714 - 8)) (wrap64 ((wrap64 (a714 - 8)) + 1)) t1043 0 0 0 0, b11 g1040 (wrap64 (a714 - 8)) (wrap64 (a714 - 1))] w1048) := ⟨by rw [hst]; exact hq0⟩; clear hq0; clear hst; replace HS : Aside0 (Sep (fps []) w [b7 g717 a713 a714 a715 a716, b10 g720 0 0 0 0 0 0 0 0, b10 g877 t874 (wrap64 (a714 - 8)) (wrap64 ((wrap64 (a714 - 8)) + 1)) t1043 0 0 0 0] w1048) := ⟨HS.out.sub (.cons_cons _ (.cons_cons _ (.cons_cons _ (.cons _ .slnil))))⟩; have hc1049 : w1048.cell? ⟨g717, 0, none⟩ = some (.int .i64 a713) := blk_cellv (HS.out.at0) 0 rfl; have hc1050 : w1048.cell? ⟨g717, 1, none⟩ = some (.int .i64 a714) := blk_cellv (HS.out.at0) 1 rfl) | ((with_reducible refine gate_dst (N := 43) rfl ?_); refine slice_on (n := 2) ?hg (N := 43) ?hd (cs := #[.int .i64 a713, .int .i64 (wrap64 (a714 + 1))]) (t := 3) ?hr ?_; (case hd => rfl); (case hg => rfl); (case hr => first | (go_simp; done) | (go_simp; rfl)); intro g1051 hg w1052 hbox hb; clear hc1049 hc1050; replace HS : Aside0 (Sep (fps []) w [b7 g717 a713 a714 a715 a716, b10 g720 0 0 0 0 0 0 0 0, b10 g877 t874 (wrap64 (a714 - 8)) (wrap64 ((wrap64 (a714 - 8)) + 1)) t1043 0 0 0 0, b11 g1051 a713 (wrap64 (a714 + 1))] w1052) := ⟨HS.out.box hg hbox hb⟩; clear hg hbox hb))
      obtain ⟨t1054, HA1055, H⟩ := bind_some H
      refine (ratio_Mul.calls _ [a713, wrap64 (a714 + 1)] (some ⟨g1051, 0, none⟩) 2 t1054 _ ⟨Rd.lit (l := []) (rest := [b7 g717 a713 a714 a715 a716, b10 g720 0 0 0 0 0 0 0 0, b10 g877 t874 (wrap64 (a714 - 8)) (wrap64 ((wrap64 (a714 - 8)) + 1)) t1043 0 0 0 0, b11 g1051 a713 (wrap64 (a714 + 1))]) (xs := [a713, wrap64 (a714 + 1)]) HS.out 3 rfl (by simp)⟩ ⟨Gl.pass (l := []) (rest := [b7 g717 a713 a714 a715 a716, b10 g720 0 0 0 0 0 0 0 0, b10 g877 t874 (wrap64 (a714 - 8)) (wrap64 ((wrap64 (a714 - 8)) + 1)) t1043 0 0 0 0, b11 g1051 a713 (wrap64 (a714 + 1))]) HGl0.out HS.out⟩ ⟨HS.out.begin (l := []) (rest := [b7 g717 a713 a714 a715 a716, b10 g720 0 0 0 0 0 0 0 0, b10 g877 t874 (wrap64 (a714 - 8)) (wrap64 ((wrap64 (a714 - 8)) + 1)) t1043 0 0 0 0, b11 g1051 a713 (wrap64 (a714 + 1))])⟩ HA1055).mono ?_
      rintro e_ w1056 ⟨rfl, hS⟩
      replace HS : Aside0 (Sep (fps []) w [b7 g717 a713 a714 a715 a716, b10 g720 0 0 0 0 0 0 0 0, b10 g877 t874 (wrap64 (a714 - 8)) (wrap64 ((wrap64 (a714 - 8)) + 1)) t1043 0 0 0 0, b11 g1051 a713 (wrap64 (a714 + 1))] w1056) := ⟨HS.out.call (l := []) (rest := [b7 g717 a713 a714 a715 a716, b10 g720 0 0 0 0 0 0 0 0, b10 g877 t874 (wrap64 (a714 - 8)) (wrap64 ((wrap64 (a714 - 8)) + 1)) t1043 0 0 0 0, b11 g1051 a713 (wrap64 (a714 + 1))]) hS⟩
      clear hS
      have hc1057 : w1056.cell? ⟨g877, 5, none⟩ = some (.int .i64 0) := blk_cellv (HS.out.at2) 5 rfl
      have hz1058 : w1056.frozen? ⟨g877, 5, none⟩ = false := blk_fz (HS.out.at2) 5
      go_wp2_with (first | ((with_reducible refine gate_store (t := 3) (p := 45) rfl ?_); refine store_event (w1 := (World.setCell w1056 ⟨g877, 5, none⟩ (.int .i64 t1054))) rfl (t := 3) (p := 45) rfl rfl ?hr ?_; (case hr => first | (go_simp; done) | (go_simp; rfl)); intro w1059 hst; clear hc1057 hz1058; have hq0 : Sep (fps []) w [b7 g717 a713 a714 a715 a716, b10 g720 0 0 0 0 0 0 0 0, b10 g877 t874 (wrap64 (a714 - 8)) (wrap64 ((wrap64 (a714 - 8)) + 1)) t1043 0 t1054 0 0, b11 g1051 a713 (wrap64 (a714 + 1))] (World.setCell w1056 ⟨g877, 5, none⟩ (.int .i64 t1054)) := (HS.out).set1 (l1 := [b7 g717 a713 a714 a715 a716, b10 g720 0 0 0 0 0 0 0 0]) (l2 := [b11 g1051 a713 (wrap64 (a714 + 1))]) 5 (.int .i64 t1054); replace HS : Aside0 (Sep (fps []) w [b7 g717 a713 a714 a715 a716, b10 g720 0 0 0 0 0 0 0 0, b10 g877 t874 (wrap64 (a714 - 8)) (wrap64 ((wrap64 (a714 - 8)) + 1)) t1043 0 t1054 0 0, b11 g1051 a713 (wrap64 (a714 + 1))] w1059) := ⟨by rw [hst]; exact hq0⟩; clear hq0; clear hst; replace HS : Aside0 (Sep (fps []) w [b7 g717 a713 a714 a715 a716, b10 g720 0 0 0 0 0 0 0 0, b10 g877 t874 (wrap64 (a714 - 8)) (wrap64 ((wrap64 (a714 - 8)) + 1)) t1043 0 t1054 0 0] w1059) := ⟨HS.out.sub (.cons_cons _ (.cons_cons _ (.cons_cons _ (.cons _ .slnil))))⟩; have hc1060 : w1059.cell? ⟨g877, 5, none⟩ = some (.int .i64 t1054) := blk_cellv (HS.out.at2) 5 rfl) | ((with_reducible refine gate_dst (N := 48) rfl ?_); refine slice_on (n := 2) ?hg (N := 48) ?hd (cs := #[.int .i64 3, .int .i64 t1054]) (t := 3) ?hr ?_; (case hd => rfl); (case hg => rfl); (case hr => first | (go_simp; done) | (go_simp; rfl)); intro g1061 hg w1062 hbox hb; clear hc1060; replace HS : Aside0 (Sep (fps []) w [b7 g717 a713 a714 a715 a716, b10 g720 0 0 0 0 0 0 0 0, b10 g877 t874 (wrap64 (a714 - 8)) (wrap64 ((wrap64 (a714 - 8)) + 1)) t1043 0 t1054 0 0, b11 g1061 3 t1054] w1062) := ⟨HS.out.box hg hbox hb⟩; clear hg hbox hb))
      obtain ⟨t1064, HA1065, H⟩ := bind_some H
      refine (ratio_Mul.calls _ [3, t1054] (some ⟨g1061, 0, none⟩) 2 t1064 _ ⟨Rd.lit (l := []) (rest := [b7 g717 a713 a714 a715 a716, b10 g720 0 0 0 0 0 0 0 0, b10 g877 t874 (wrap64 (a714 - 8)) (wrap64 ((wrap64 (a714 - 8)) + 1)) t1043 0 t1054 0 0, b11 g1061 3 t1054]) (xs := [3, t1054]) HS.out 3 rfl (by simp)⟩ ⟨Gl.pass (l := []) (rest := [b7 g717 a713 a714 a715 a716, b10 g720 0 0 0 0 0 0 0 0, b10 g877 t874 (wrap64 (a714 - 8)) (wrap64 ((wrap64 (a714 - 8)) + 1)) t1043 0 t1054 0 0, b11 g1061 3 t1054]) HGl0.out HS.out⟩ ⟨HS.out.begin (l := []) (rest := [b7 g717 a713 a714 a715 a716, b10 g720 0 0 0 0 0 0 0 0, b10 g877 t874 (wrap64 (a714 - 8)) (wrap64 ((wrap64 (a714 - 8)) + 1)) t1043 0 t1054 0 0, b11 g1061 3 t1054])⟩ HA1065).mono ?_
      rintro e_ w1066 ⟨rfl, hS⟩
      replace HS : Aside0 (Sep (fps []) w [b7 g717 a713 a714 a715 a716, b10 g720 0 0 0 0 0 0 0 0, b10 g877 t874 (wrap64 (a714 - 8)) (wrap64 ((wrap64 (a714 - 8)) + 1)) t1043 0 t1054 0 0, b11 g1061 3 t1054] w1066) := ⟨HS.out.call (l := []) (rest := [b7 g717 a713 a714 a715 a716, b10 g720 0 0 0 0 0 0 0 0, b10 g877 t874 (wrap64 (a714 - 8)) (wrap64 ((wrap64 (a714 - 8)) + 1)) t1043 0 t1054 0 0, b11 g1061 3 t1054]) hS⟩
      clear hS
      go_wp2_with (first | ((with_reducible refine gate_dst (N := 50) rfl ?_); refine slice_on (n := 2) ?hg (N := 50) ?hd (cs := #[.int .i64 t1064, .int .i64 4]) (t := 3) ?hr ?_; (case hd => rfl); (case hg => rfl); (case hr => first | (go_simp; done) | (go_simp; rfl)); intro g1067 hg w1068 hbox hb; replace HS : Aside0 (Sep (fps []) w [b7 g717 a713 a714 a715 a716, b10 g720 0 0 0 0 0 0 0 0, b10 g877 t874 (wrap64 (a714 - 8)) (wrap64 ((wrap64 (a714 - 8)) + 1)) t1043 0 t1054 0 0, b11 g1061 3 t1054, b11 g1067 t1064 4] w1068) := ⟨HS.out.box hg hbox hb⟩; clear hg hbox hb))
      obtain ⟨t1070, HA1071, H⟩ := bind_some H
      refine (ratio_Add.calls _ [t1064, 4] (some ⟨g1067, 0, none⟩) 2 t1070 _ ⟨Rd.lit (l := []) (rest := [b7 g717 a713 a714 a715 a716, b10 g720 0 0 0 0 0 0 0 0, b10 g877 t874 (wrap64 (a714 - 8)) (wrap64 ((wrap64 (a714 - 8)) + 1)) t1043 0 t1054 0 0, b11 g1061 3 t1054, b11 g1067 t1064 4]) (xs := [t1064, 4]) HS.out 4 rfl (by simp)⟩ ⟨Gl.pass (l := []) (rest := [b7 g717 a713 a714 a715 a716, b10 g720 0 0 0 0 0 0 0 0, b10 g877 t874 (wrap64 (a714 - 8)) (wrap64 ((wrap64 (a714 - 8)) + 1)) t1043 0 t1054 0 0, b11 g1061 3 t1054, b11 g1067 t1064 4]) HGl0.out HS.out⟩ ⟨HS.out.begin (l := []) (rest := [b7 g717 a713 a714 a715 a716, b10 g720 0 0 0 0 0 0 0 0, b10 g877 t874 (wrap64 (a714 - 8)) (wrap64 ((wrap64 (a714 - 8)) + 1)) t1043 0 t1054 0 0, b11 g1061 3 t1054, b11 g1067 t1064 4])⟩ HA1071).mono ?_
      rintro e_ w1072 ⟨rfl, hS⟩
      replace HS : Aside0 (Sep (fps []) w [b7 g717 a713 a714 a715 a716, b10 g720 0 0 0 0 0 0 0 0, b10 g877 t874 (wrap64 (a714 - 8)) (wrap64 ((wrap64 (a714 - 8)) + 1)) t1043 0 t1054 0 0, b11 g1061 3 t1054, b11 g1067 t1064 4] w1072) := ⟨HS.out.call (l := []) (rest := [b7 g717 a713 a714 a715 a716, b10 g720 0 0 0 0 0 0 0 0, b10 g877 t874 (wrap64 (a714 - 8)) (wrap64 ((wrap64 (a714 - 8)) + 1)) t1043 0 t1054 0 0, b11 g1061 3 t1054, b11 g1067 t1064 4]) hS⟩
      clear hS
      have hc1073 : w1072.cell? ⟨g877, 4, none⟩ = some (.int .i64 0) := blk_cellv (HS.out.at2) 4 rfl
      have hz1074 : w1072.frozen? ⟨g877, 4, none⟩ = false := blk_fz (HS.out.at2) 4
      go_wp2_with (first | ((with_reducible refine gate_store (t := 3) (p := 52) rfl ?_); refine store_event (w1 := (World.setCell w1072 ⟨g877, 4, none⟩ (.int .i64 t1070))) rfl (t := 3) (p := 52) rfl rfl ?hr ?_; (case hr => first | (go_simp; done) | (go_simp; rfl)); intro w1075 hst; clear hc1073 hz1074; have hq0 : Sep (fps []) w [b7 g717 a713 a714 a715 a716, b10 g720 0 0 0 0 0 0 0 0, b10 g877 t874 (wrap64 (a714 - 8)) (wrap64 ((wrap64 (a714 - 8)) + 1)) t1043 t1070 t1054 0 0, b11 g1061 3 t1054, b11 g1067 t1064 4] (World.setCell w1072 ⟨g877, 4, none⟩ (.int .i64 t1070)) := (HS.out).set1 (l1 := [b7 g717 a713 a714 a715 a716, b10 g720 0 0 0 0 0 0 0 0]) (l2 := [b11 g1061 3 t1054, b11 g1067 t1064 4]) 4 (.int .i64 t1070); replace HS : Aside0 (Sep (fps []) w [b7 g717 a713 a714 a715 a716, b10 g720 0 0 0 0 0 0 0 0, b10 g877 t874 (wrap64 (a714 - 8)) (wrap64 ((wrap64 (a714 - 8)) + 1)) t1043 t1070 t1054 0 0, b11 g1061 3 t1054, b11 g1067 t1064 4] w1075) := ⟨by rw [hst]; exact hq0⟩; clear hq0; clear hst; replace HS : Aside0 (Sep (fps []) w [b7 g717 a713 a714 a715 a716, b10 g720 0 0 0 0 0 0 0 0, b10 g877 t874 (wrap64 (a714 - 8)) (wrap64 ((wrap64 (a714 - 8)) + 1)) t1043 t1070 t1054 0 0] w1075) := ⟨HS.out.sub (.cons_cons _ (.cons_cons _ (.cons_cons _ (.cons _ (.cons _ .slnil)))))⟩))
      obtain ⟨t1095, HA1096, H⟩ := bind_some H
      obtain ⟨t1101, HA1102, H⟩ := bind_some H
      obtain ⟨t1107, HA1108, H⟩ := bind_some H
      obtain ⟨t1113, HA1114, H⟩ := bind_some H
      go_cut [] (fun wc => ∃ (g1098 : Nat) (g1104 : Nat) (g1110 : Nat), Aside0 (Sep (fps []) w [b7 g717 a713 a714 a715 a716, b10 g720 0 0 0 0 0 0 0 0, b10 g877 t874 (wrap64 (a714 - 8)) (wrap64 ((wrap64 (a714 - 8)) + 1)) t1043 t1070 t1054 t1113 0, b11 g1098 2 t1095, b11 g1104 2 (wrap64 ((wrap64 (a714 - 8)) + 1)), b11 g1110 t1101 t1107] wc))
      case first =>
        go_wp2_with fail
        refine start_ (n := 15) (S := (fun w' => w'.cell? ⟨g877, 4, none⟩ = some (.int .i64 t1070) ∧ w'.cell? ⟨g717, 3, none⟩ = some (.int .i64 a716) ∧ w'.cell? ⟨g877, 2, none⟩ = some (.int .i64 (wrap64 ((wrap64 (a714 - 8)) + 1))))) (ds := []) #[false, false, false, false, false, false, false, false, false, false, false, false, false, false, false] (by kernel_rfl) rfl rfl (⟨blk_cellv ((HS.out.drew).at2) 4 rfl, blk_cellv ((HS.out.drew).at0) 3 rfl, blk_cellv ((HS.out.drew).at2) 2 rfl⟩) (fun hHeld => ?_)
        have HS_ := Aside0.mk HS.out.drew
        clear HS
        generalize World.drew _ = w1121 at HS_ hHeld ⊢
        have HS := HS_
        clear HS_
        refine pure_ (i := 0) (N := some 53) (v := ?_) (a' := ?_) #[true, false, false, false, false, false, false, false, false, false, false, false, false, false, false] rfl rfl (by kernel_rfl) (fun _ _ _ h => h) (Or.inl ⟨by rfl, ?_⟩) ?_ ?_
        rotate_left
        · intro w'
          go_simp
          with_reducible rfl
        rotate_left
        · simp only [Act.put, List.setIfInBounds_toArray, List.set_cons_zero, List.set_cons_succ, i64_w, i32_w]
          rfl
        refine pure_ (i := 2) (N := some 55) (v := ?_) (a' := ?_) #[true, false, true, false, false, false, false, false, false, false, false, false, false, false, false] rfl rfl (by kernel_rfl) (fun _ _ _ h => h) (Or.inl ⟨by rfl, ?_⟩) ?_ ?_
        rotate_left
        · intro w'
          go_simp
          with_reducible rfl
        rotate_left
        · simp only [Act.put, List.setIfInBounds_toArray, List.set_cons_zero, List.set_cons_succ, i64_w, i32_w]
          rfl
        refine pure_ (i := 7) (N := some 60) (v := ?_) (a' := ?_) #[true, false, true, false, false, false, false, true, false, false, false, false, false, false, false] rfl rfl (by kernel_rfl) (fun _ _ _ h => h) (Or.inl ⟨by rfl, ?_⟩) ?_ ?_
        rotate_left
        · intro w'
          go_simp
          with_reducible rfl
        rotate_left
        · simp only [Act.put, List.setIfInBounds_toArray, List.set_cons_zero, List.set_cons_succ, i64_w, i32_w]
          rfl
        refine take_ (i := 1) (N := some 54) (v := ?_) (a' := ?_) #[true, true, true, false, false, false, false, true, false, false, false, false, false, false, false] rfl rfl (by kernel_rfl) (fun _ _ _ h => h) (Or.inl ⟨by rfl, ?_⟩) hHeld ?_ ?_
        rotate_left
        · rintro w' hS'
          obtain ⟨s0, s1, s2⟩ := hS'
          go_simp
          with_reducible rfl
        rotate_left
        · simp only [Act.put, List.setIfInBounds_toArray, List.set_cons_zero, List.set_cons_succ, i64_w, i32_w]
          rfl
        refine take_ (i := 3) (N := some 56) (v := ?_) (a' := ?_) #[true, true, true, true, false, false, false, true, false, false, false, false, false, false, false] rfl rfl (by kernel_rfl) (fun _ _ _ h => h) (Or.inl ⟨by rfl, ?_⟩) hHeld ?_ ?_
        rotate_left
        · rintro w' hS'
          obtain ⟨s0, s1, s2⟩ := hS'
          go_simp
          with_reducible rfl
        rotate_left
        · simp only [Act.put, List.setIfInBounds_toArray, List.set_cons_zero, List.set_cons_succ, i64_w, i32_w]
          rfl
        refine take_ (i := 8) (N := some 61) (v := ?_) (a' := ?_) #[true, true, true, true, false, false, false, true, true, false, false, false, false, false, false] rfl rfl (by kernel_rfl) (fun _ _ _ h => h) (Or.inl ⟨by rfl, ?_⟩) hHeld ?_ ?_
        rotate_left
        · rintro w' hS'
          obtain ⟨s0, s1, s2⟩ := hS'
          go_simp
          with_reducible rfl
        rotate_left
        · simp only [Act.put, List.setIfInBounds_toArray, List.set_cons_zero, List.set_cons_succ, i64_w, i32_w]
          rfl
        refine two_ (i := 4) (j := 9) (Ni := some 57) (Nj := some 62) #[true, true, true, true, true, false, false, true, true, false, false, false, false, false, false] #[true, true, true, true, false, false, false, true, true, true, false, false, false, false, false] rfl rfl rfl rfl (by kernel_rfl) (by decide) (by decide) (fun K hK => ?_) (fun K hK => ?_)
        · refine goes_ Tryd.func124 (by kernel_rfl) rfl #[.int .i64 t1070, .int .i64 a716] (by rfl) rfl rfl (by (try simp only [List.map_toArray, List.map_cons, List.map_nil]); first | done | rfl) ?_
          refine (ratio_Up.calls t1070 a716 t1095 _ ⟨Gl.pass (l := []) (rest := [b7 g717 a713 a714 a715 a716, b10 g720 0 0 0 0 0 0 0 0, b10 g877 t874 (wrap64 (a714 - 8)) (wrap64 ((wrap64 (a714 - 8)) + 1)) t1043 t1070 t1054 0 0]) HGl0.out HS.out⟩ ⟨HS.out.begin (l := []) (rest := [b7 g717 a713 a714 a715 a716, b10 g720 0 0 0 0 0 0 0 0, b10 g877 t874 (wrap64 (a714 - 8)) (wrap64 ((wrap64 (a714 - 8)) + 1)) t1043 t1070 t1054 0 0])⟩ HA1096).mono ?_
          rintro e_ w1123 ⟨rfl, hS⟩
          replace HS : Aside0 (Sep (fps []) w [b7 g717 a713 a714 a715 a716, b10 g720 0 0 0 0 0 0 0 0, b10 g877 t874 (wrap64 (a714 - 8)) (wrap64 ((wrap64 (a714 - 8)) + 1)) t1043 t1070 t1054 0 0] w1123) := ⟨HS.out.call (l := []) (rest := [b7 g717 a713 a714 a715 a716, b10 g720 0 0 0 0 0 0 0 0, b10 g877 t874 (wrap64 (a714 - 8)) (wrap64 ((wrap64 (a714 - 8)) + 1)) t1043 t1070 t1054 0 0]) hS⟩
          clear hS
          refine ⟨_, rfl, ?_⟩
          refine hK.out _ _ (⟨blk_cellv (HS.out.at2) 4 rfl, blk_cellv (HS.out.at0) 3 rfl, blk_cellv (HS.out.at2) 2 rfl⟩) (fun hHeld => ?_)
          clear hK K
          refine norm_ (a' := ?_) ?_ ?_
          rotate_left
          · show Act.put _ (some 57) _ = _
            simp only [Act.put, List.setIfInBounds_toArray, List.set_cons_zero, List.set_cons_succ, i64_w, i32_w]
            rfl
          refine two_ (i := 5) (j := 9) (Ni := some 58) (Nj := some 62) #[true, true, true, true, true, true, false, true, true, false, false, false, false, false, false] #[true, true, true, true, true, false, false, true, true, true, false, false, false, false, false] rfl rfl rfl rfl (by kernel_rfl) (by decide) (by decide) (fun K hK => ?_) (fun K hK => ?_)
          · refine slice_step (n := 2) (by rfl) (N := 58) rfl (cs := #[.int .i64 2, .int .i64 t1095]) (t := 3) ?hr ?_
            case hr => first | (go_simp; done) | (go_simp; rfl)
            intro g1124 hg w1125 hbox hb
            replace HS : Aside0 (Sep (fps []) w [b7 g717 a713 a714 a715 a716, b10 g720 0 0 0 0 0 0 0 0, b10 g877 t874 (wrap64 (a714 - 8)) (wrap64 ((wrap64 (a714 - 8)) + 1)) t1043 t1070 t1054 0 0, b11 g1124 2 t1095] w1125) := ⟨HS.out.box hg hbox hb⟩
            clear hg hbox hb
            refine hK.out _ _ (⟨blk_cellv (HS.out.at2) 4 rfl, blk_cellv (HS.out.at0) 3 rfl, blk_cellv (HS.out.at2) 2 rfl⟩) (fun hHeld => ?_)
            clear hK K
            refine norm_ (a' := ?_) ?_ ?_
            rotate_left
            · show Act.put _ (some 58) _ = _
              simp only [Act.put, List.setIfInBounds_toArray, List.set_cons_zero, List.set_cons_succ, i64_w, i32_w]
              rfl
            refine two_ (i := 6) (j := 9) (Ni := some 59) (Nj := some 62) #[true, true, true, true, true, true, true, true, true, false, false, false, false, false, false] #[true, true, true, true, true, true, false, true, true, true, false, false, false, false, false] rfl rfl rfl rfl (by kernel_rfl) (by decide) (by decide) (fun K hK => ?_) (fun K hK => ?_)
            · refine goes_ Tryd.func123 (by kernel_rfl) rfl #[.slice (some ⟨g1124, 0, none⟩) 2 2] (by rfl) rfl rfl (by (try simp only [List.map_toArray, List.map_cons, List.map_nil]); first | done | rfl) ?_
              refine (ratio_Mul.calls _ [2, t1095] (some ⟨g1124, 0, none⟩) 2 t1101 _ ⟨Rd.lit (l := []) (rest := [b7 g717 a713 a714 a715 a716, b10 g720 0 0 0 0 0 0 0 0, b10 g877 t874 (wrap64 (a714 - 8)) (wrap64 ((wrap64 (a714 - 8)) + 1)) t1043 t1070 t1054 0 0, b11 g1124 2 t1095]) (xs := [2, t1095]) HS.out 3 rfl (by simp)⟩ ⟨Gl.pass (l := []) (rest := [b7 g717 a713 a714 a715 a716, b10 g720 0 0 0 0 0 0 0 0, b10 g877 t874 (wrap64 (a714 - 8)) (wrap64 ((wrap64 (a714 - 8)) + 1)) t1043 t1070 t1054 0 0, b11 g1124 2 t1095]) HGl0.out HS.out⟩ ⟨HS.out.begin (l := []) (rest := [b7 g717 a713 a714 a715 a716, b10 g720 0 0 0 0 0 0 0 0, b10 g877 t874 (wrap64 (a714 - 8)) (wrap64 ((wrap64 (a714 - 8)) + 1)) t1043 t1070 t1054 0 0, b11 g1124 2 t1095])⟩ HA1102).mono ?_
              rintro e_ w1128 ⟨rfl, hS⟩
              replace HS : Aside0 (Sep (fps []) w [b7 g717 a713 a714 a715 a716, b10 g720 0 0 0 0 0 0 0 0, b10 g877 t874 (wrap64 (a714 - 8)) (wrap64 ((wrap64 (a714 - 8)) + 1)) t1043 t1070 t1054 0 0, b11 g1124 2 t1095] w1128) := ⟨HS.out.call (l := []) (rest := [b7 g717 a713 a714 a715 a716, b10 g720 0 0 0 0 0 0 0 0, b10 g877 t874 (wrap64 (a714 - 8)) (wrap64 ((wrap64 (a714 - 8)) + 1)) t1043 t1070 t1054 0 0, b11 g1124 2 t1095]) hS⟩
              clear hS
              refine ⟨_, rfl, ?_⟩
              refine hK.out _ _ (⟨blk_cellv (HS.out.at2) 4 rfl, blk_cellv (HS.out.at0) 3 rfl, blk_cellv (HS.out.at2) 2 rfl⟩) (fun hHeld => ?_)
              clear hK K
              refine norm_ (a' := ?_) ?_ ?_
              rotate_left
              · show Act.put _ (some 59) _ = _
                simp only [Act.put, List.setIfInBounds_toArray, List.set_cons_zero, List.set_cons_succ, i64_w, i32_w]
                rfl
              refine one_ (i := 9) (N := some 62) #[true, true, true, true, true, true, true, true, true, true, false, false, false, false, false] rfl rfl (by kernel_rfl) (by decide) (fun K hK => ?_)
              refine slice_step (n := 2) (by rfl) (N := 62) rfl (cs := #[.int .i64 2, .int .i64 (wrap64 ((wrap64 (a714 - 8)) + 1))]) (t := 3) ?hr ?_
              case hr => first | (go_simp; done) | (go_simp; rfl)
              intro g1129 hg w1130 hbox hb
              replace HS : Aside0 (Sep (fps []) w [b7 g717 a713 a714 a715 a716, b10 g720 0 0 0 0 0 0 0 0, b10 g877 t874 (wrap64 (a714 - 8)) (wrap64 ((wrap64 (a714 - 8)) + 1)) t1043 t1070 t1054 0 0, b11 g1124 2 t1095, b11 g1129 2 (wrap64 ((wrap64 (a714 - 8)) + 1))] w1130) := ⟨HS.out.box hg hbox hb⟩
              clear hg hbox hb
              refine hK.out _ _ (⟨blk_cellv (HS.out.at2) 4 rfl, blk_cellv (HS.out.at0) 3 rfl, blk_cellv (HS.out.at2) 2 rfl⟩) (fun hHeld => ?_)
              clear hK K
              refine norm_ (a' := ?_) ?_ ?_
              rotate_left
              · show Act.put _ (some 62) _ = _
                simp only [Act.put, List.setIfInBounds_toArray, List.set_cons_zero, List.set_cons_succ, i64_w, i32_w]
                rfl
              refine one_ (i := 10) (N := some 63) #[true, true, true, true, true, true, true, true, true, true, true, false, false, false, false] rfl rfl (by kernel_rfl) (by decide) (fun K hK => ?_)
              refine goes_ Tryd.func123 (by kernel_rfl) rfl #[.slice (some ⟨g1129, 0, none⟩) 2 2] (by rfl) rfl rfl (by (try simp only [List.map_toArray, List.map_cons, List.map_nil]); first | done | rfl) ?_
              refine (ratio_Mul.calls _ [2, wrap64 ((wrap64 (a714 - 8)) + 1)] (some ⟨g1129, 0, none⟩) 2 t1107 _ ⟨Rd.lit (l := []) (rest := [b7 g717 a713 a714 a715 a716, b10 g720 0 0 0 0 0 0 0 0, b10 g877 t874 (wrap64 (a714 - 8)) (wrap64 ((wrap64 (a714 - 8)) + 1)) t1043 t1070 t1054 0 0, b11 g1124 2 t1095, b11 g1129 2 (wrap64 ((wrap64 (a714 - 8)) + 1))]) (xs := [2, wrap64 ((wrap64 (a714 - 8)) + 1)]) HS.out 4 rfl (by simp)⟩ ⟨Gl.pass (l := []) (rest := [b7 g717 a713 a714 a715 a716, b10 g720 0 0 0 0 0 0 0 0, b10 g877 t874 (wrap64 (a714 - 8)) (wrap64 ((wrap64 (a714 - 8)) + 1)) t1043 t1070 t1054 0 0, b11 g1124 2 t1095, b11 g1129 2 (wrap64 ((wrap64 (a714 - 8)) + 1))]) HGl0.out HS.out⟩ ⟨HS.out.begin (l := []) (rest := [b7 g717 a713 a714 a715 a716, b10 g720 0 0 0 0 0 0 0 0, b10 g877 t874 (wrap64 (a714 - 8)) (wrap64 ((wrap64 (a714 - 8)) + 1)) t1043 t1070 t1054 0 0, b11 g1124 2 t1095, b11 g1129 2 (wrap64 ((wrap64 (a714 - 8)) + 1))])⟩ HA1108).mono ?_
              rintro e_ w1133 ⟨rfl, hS⟩
              replace HS : Aside0 (Sep (fps []) w [b7 g717 a713 a714 a715 a716, b10 g720 0 0 0 0 0 0 0 0, b10 g877 t874 (wrap64 (a714 - 8)) (wrap64 ((wrap64 (a714 - 8)) + 1)) t1043 t1070 t1054 0 0, b11 g1124 2 t1095, b11 g1129 2 (wrap64 ((wrap64 (a714 - 8)) + 1))] w1133) := ⟨HS.out.call (l := []) (rest := [b7 g717 a713 a714 a715 a716, b10 g720 0 0 0 0 0 0 0 0, b10 g877 t874 (wrap64 (a714 - 8)) (wrap64 ((wrap64 (a714 - 8)) + 1)) t1043 t1070 t1054 0 0, b11 g1124 2 t1095, b11 g1129 2 (wrap64 ((wrap64 (a714 - 8)) + 1))]) hS⟩
              clear hS
              refine ⟨_, rfl, ?_⟩
              refine hK.out _ _ (⟨blk_cellv (HS.out.at2) 4 rfl, blk_cellv (HS.out.at0) 3 rfl, blk_cellv (HS.out.at2) 2 rfl⟩) (fun hHeld => ?_)
              clear hK K
              refine norm_ (a' := ?_) ?_ ?_
              rotate_left
              · show Act.put _ (some 63) _ = _
                simp only [Act.put, List.setIfInBounds_toArray, List.set_cons_zero, List.set_cons_succ, i64_w, i32_w]
                rfl
              refine one_ (i := 11) (N := some 64) #[true, true, true, true, true, true, true, true, true, true, true, true, false, false, false] rfl rfl (by kernel_rfl) (by decide) (fun K hK => ?_)
              refine slice_step (n := 2) (by rfl) (N := 64) rfl (cs := #[.int .i64 t1101, .int .i64 t1107]) (t := 3) ?hr ?_
              case hr => first | (go_simp; done) | (go_simp; rfl)
              intro g1134 hg w1135 hbox hb
              replace HS : Aside0 (Sep (fps []) w [b7 g717 a713 a714 a715 a716, b10 g720 0 0 0 0 0 0 0 0, b10 g877 t874 (wrap64 (a714 - 8)) (wrap64 ((wrap64 (a714 - 8)) + 1)) t1043 t1070 t1054 0 0, b11 g1124 2 t1095, b11 g1129 2 (wrap64 ((wrap64 (a714 - 8)) + 1)), b11 g1134 t1101 t1107] w1135) := ⟨HS.out.box hg hbox hb⟩
              clear hg hbox hb
              refine hK.out _ _ (⟨blk_cellv (HS.out.at2) 4 rfl, blk_cellv (HS.out.at0) 3 rfl, blk_cellv (HS.out.at2) 2 rfl⟩) (fun hHeld => ?_)
              clear hK K
              refine norm_ (a' := ?_) ?_ ?_
              rotate_left
              · show Act.put _ (some 64) _ = _
                simp only [Act.put, List.setIfInBounds_toArray, List.set_cons_zero, List.set_cons_succ, i64_w, i32_w]
                rfl
              refine one_ (i := 12) (N := some 65) #[true, true, true, true, true, true, true, true, true, true, true, true, true, false, false] rfl rfl (by kernel_rfl) (by decide) (fun K hK => ?_)
              refine goes_ Tryd.func122 (by kernel_rfl) rfl #[.slice (some ⟨g1134, 0, none⟩) 2 2] (by rfl) rfl rfl (by (try simp only [List.map_toArray, List.map_cons, List.map_nil]); first | done | rfl) ?_
              refine (ratio_Add.calls _ [t1101, t1107] (some ⟨g1134, 0, none⟩) 2 t1113 _ ⟨Rd.lit (l := []) (rest := [b7 g717 a713 a714 a715 a716, b10 g720 0 0 0 0 0 0 0 0, b10 g877 t874 (wrap64 (a714 - 8)) (wrap64 ((wrap64 (a714 - 8)) + 1)) t1043 t1070 t1054 0 0, b11 g1124 2 t1095, b11 g1129 2 (wrap64 ((wrap64 (a714 - 8)) + 1)), b11 g1134 t1101 t1107]) (xs := [t1101, t1107]) HS.out 5 rfl (by simp)⟩ ⟨Gl.pass (l := []) (rest := [b7 g717 a713 a714 a715 a716, b10 g720 0 0 0 0 0 0 0 0, b10 g877 t874 (wrap64 (a714 - 8)) (wrap64 ((wrap64 (a714 - 8)) + 1)) t1043 t1070 t1054 0 0, b11 g1124 2 t1095, b11 g1129 2 (wrap64 ((wrap64 (a714 - 8)) + 1)), b11 g1134 t1101 t1107]) HGl0.out HS.out⟩ ⟨HS.out.begin (l := []) (rest := [b7 g717 a713 a714 a715 a716, b10 g720 0 0 0 0 0 0 0 0, b10 g877 t874 (wrap64 (a714 - 8)) (wrap64 ((wrap64 (a714 - 8)) + 1)) t1043 t1070 t1054 0 0, b11 g1124 2 t1095, b11 g1129 2 (wrap64 ((wrap64 (a714 - 8)) + 1)), b11 g1134 t1101 t1107])⟩ HA1114).mono ?_
              rintro e_ w1138 ⟨rfl, hS⟩
              replace HS : Aside0 (Sep (fps []) w [b7 g717 a713 a714 a715 a716, b10 g720 0 0 0 0 0 0 0 0, b10 g877 t874 (wrap64 (a714 - 8)) (wrap64 ((wrap64 (a714 - 8)) + 1)) t1043 t1070 t1054 0 0, b11 g1124 2 t1095, b11 g1129 2 (wrap64 ((wrap64 (a714 - 8)) + 1)), b11 g1134 t1101 t1107] w1138) := ⟨HS.out.call (l := []) (rest := [b7 g717 a713 a714 a715 a716, b10 g720 0 0 0 0 0 0 0 0, b10 g877 t874 (wrap64 (a714 - 8)) (wrap64 ((wrap64 (a714 - 8)) + 1)) t1043 t1070 t1054 0 0, b11 g1124 2 t1095, b11 g1129 2 (wrap64 ((wrap64 (a714 - 8)) + 1)), b11 g1134 t1101 t1107]) hS⟩
              clear hS
              refine ⟨_, rfl, ?_⟩
              refine hK.out _ _ (⟨blk_cellv (HS.out.at2) 4 rfl, blk_cellv (HS.out.at0) 3 rfl, blk_cellv (HS.out.at2) 2 rfl⟩) (fun hHeld => ?_)
              clear hK K
              refine norm_ (a' := ?_) ?_ ?_
              rotate_left
              · show Act.put _ (some 65) _ = _
                simp only [Act.put, List.setIfInBounds_toArray, List.set_cons_zero, List.set_cons_succ, i64_w, i32_w]
                rfl
              refine pure_ (i := 13) (N := some 66) (v := ?_) (a' := ?_) #[true, true, true, true, true, true, true, true, true, true, true, true, true, true, false] rfl rfl (by kernel_rfl) (fun _ _ _ h => h) (Or.inl ⟨by rfl, ?_⟩) ?_ ?_
              rotate_left
              · intro w'
                go_simp
                with_reducible rfl
              rotate_left
              · simp only [Act.put, List.setIfInBounds_toArray, List.set_cons_zero, List.set_cons_succ, i64_w, i32_w]
                rfl
              refine one_ (i := 14) (N := none) #[true, true, true, true, true, true, true, true, true, true, true, true, true, true, true] rfl rfl (by kernel_rfl) (by decide) (fun K hK => ?_)
              have hc1140 := blk_cellv (v := .int .i64 0) (HS.out.at2) 6 rfl
              have hz1141 := blk_fz (HS.out.at2) 6
              refine store_step (w1 := (World.setCell w1138 ⟨g877, 6, none⟩ (.int .i64 t1113))) (by rfl) rfl ?hr ?_
              case hr => first | (go_simp; done) | (go_simp; rfl)
              clear hc1140 hz1141
              intro w1139 hst
              have hq0 : Sep (fps []) w [b7 g717 a713 a714 a715 a716, b10 g720 0 0 0 0 0 0 0 0, b10 g877 t874 (wrap64 (a714 - 8)) (wrap64 ((wrap64 (a714 - 8)) + 1)) t1043 t1070 t1054 t1113 0, b11 g1124 2 t1095, b11 g1129 2 (wrap64 ((wrap64 (a714 - 8)) + 1)), b11 g1134 t1101 t1107] (World.setCell w1138 ⟨g877, 6, none⟩ (.int .i64 t1113)) := (HS.out).set1 (l1 := [b7 g717 a713 a714 a715 a716, b10 g720 0 0 0 0 0 0 0 0]) (l2 := [b11 g1124 2 t1095, b11 g1129 2 (wrap64 ((wrap64 (a714 - 8)) + 1)), b11 g1134 t1101 t1107]) 6 (.int .i64 t1113)
              have HS_ : Aside0 (Sep (fps []) w [b7 g717 a713 a714 a715 a716, b10 g720 0 0 0 0 0 0 0 0, b10 g877 t874 (wrap64 (a714 - 8)) (wrap64 ((wrap64 (a714 - 8)) + 1)) t1043 t1070 t1054 t1113 0, b11 g1124 2 t1095, b11 g1129 2 (wrap64 ((wrap64 (a714 - 8)) + 1)), b11 g1134 t1101 t1107] w1139) := ⟨by rw [hst]; exact hq0⟩
              clear hq0
              clear HS hst
              have HS := HS_
              clear HS_
              refine hK.out _ _ (⟨blk_cellv (HS.out.at2) 4 rfl, blk_cellv (HS.out.at0) 3 rfl, blk_cellv (HS.out.at2) 2 rfl⟩) (fun hHeld => ?_)
              clear hK K
              refine done_ (by kernel_rfl) ?_
              go_wp2_with fail
              go_meet
              case rel => exact ⟨g1124, g1129, g1134, ⟨((((((HS.out).front 5 (by simp)).front 5 (by simp)).front 5 (by simp)).front 5 (by simp)).front 5 (by simp)).front 5 (by simp)⟩⟩
            · refine slice_step (n := 2) (by rfl) (N := 62) rfl (cs := #[.int .i64 2, .int .i64 (wrap64 ((wrap64 (a714 - 8)) + 1))]) (t := 3) ?hr ?_
              case hr => first | (go_simp; done) | (go_simp; rfl)
              intro g1142 hg w1143 hbox hb
              replace HS : Aside0 (Sep (fps []) w [b7 g717 a713 a714 a715 a716, b10 g720 0 0 0 0 0 0 0 0, b10 g877 t874 (wrap64 (a714 - 8)) (wrap64 ((wrap64 (a714 - 8)) + 1)) t1043 t1070 t1054 0 0, b11 g1124 2 t1095, b11 g1142 2 (wrap64 ((wrap64 (a714 - 8)) + 1))] w1143) := ⟨HS.out.box hg hbox hb⟩
              clear hg hbox hb
              refine hK.out _ _ (⟨blk_cellv (HS.out.at2) 4 rfl, blk_cellv (HS.out.at0) 3 rfl, blk_cellv (HS.out.at2) 2 rfl⟩) (fun hHeld => ?_)
              clear hK K
              refine norm_ (a' := ?_) ?_ ?_
              rotate_left
              · show Act.put _ (some 62) _ = _
                simp only [Act.put, List.setIfInBounds_toArray, List.set_cons_zero, List.set_cons_succ, i64_w, i32_w]
                rfl
              refine one_ (i := 6) (N := some 59) #[true, true, true, true, true, true, true, true, true, true, false, false, false, false, false] rfl rfl (by kernel_rfl) (by decide) (fun K hK => ?_)
              refine goes_ Tryd.func123 (by kernel_rfl) rfl #[.slice (some ⟨g1124, 0, none⟩) 2 2] (by rfl) rfl rfl (by (try simp only [List.map_toArray, List.map_cons, List.map_nil]); first | done | rfl) ?_
              refine (ratio_Mul.calls _ [2, t1095] (some ⟨g1124, 0, none⟩) 2 t1101 _ ⟨Rd.lit (l := []) (rest := [b7 g717 a713 a714 a715 a716, b10 g720 0 0 0 0 0 0 0 0, b10 g877 t874 (wrap64 (a714 - 8)) (wrap64 ((wrap64 (a714 - 8)) + 1)) t1043 t1070 t1054 0 0, b11 g1124 2 t1095, b11 g1142 2 (wrap64 ((wrap64 (a714 - 8)) + 1))]) (xs := [2, t1095]) HS.out 3 rfl (by simp)⟩ ⟨Gl.pass (l := []) (rest := [b7 g717 a713 a714 a715 a716, b10 g720 0 0 0 0 0 0 0 0, b10 g877 t874 (wrap64 (a714 - 8)) (wrap64 ((wrap64 (a714 - 8)) + 1)) t1043 t1070 t1054 0 0, b11 g1124 2 t1095, b11 g1142 2 (wrap64 ((wrap64 (a714 - 8)) + 1))]) HGl0.out HS.out⟩ ⟨HS.out.begin (l := []) (rest := [b7 g717 a713 a714 a715 a716, b10 g720 0 0 0 0 0 0 0 0, b10 g877 t874 (wrap64 (a714 - 8)) (wrap64 ((wrap64 (a714 - 8)) + 1)) t1043 t1070 t1054 0 0, b11 g1124 2 t1095, b11 g1142 2 (wrap64 ((wrap64 (a714 - 8)) + 1))])⟩ HA1102).mono ?_
              rintro e_ w1146 ⟨rfl, hS⟩
              replace HS : Aside0 (Sep (fps []) w [b7 g717 a713 a714 a715 a716, b10 g720 0 0 0 0 0 0 0 0, b10 g877 t874 (wrap64 (a714 - 8)) (wrap64 ((wrap64 (a714 - 8)) + 1)) t1043 t1070 t1054 0 0, b11 g1124 2 t1095, b11 g1142 2 (wrap64 ((wrap64 (a714 - 8)) + 1))] w1146) := ⟨HS.out.call (l := []) (rest := [b7 g717 a713 a714 a715 a716, b10 g720 0 0 0 0 0 0 0 0, b10 g877 t874 (wrap64 (a714 - 8)) (wrap64 ((wrap64 (a714 - 8)) + 1)) t1043 t1070 t1054 0 0, b11 g1124 2 t1095, b11 g1142 2 (wrap64 ((wrap64 (a714 - 8)) + 1))]) hS⟩
              clear hS
              refine ⟨_, rfl, ?_⟩
              refine hK.out _ _ (⟨blk_cellv (HS.out.at2) 4 rfl, blk_cellv (HS.out.at0) 3 rfl, blk_cellv (HS.out.at2) 2 rfl⟩) (fun hHeld => ?_)
              clear hK K
              refine norm_ (a' := ?_) ?_ ?_
              rotate_left
              · show Act.put _ (some 59) _ = _
                simp only [Act.put, List.setIfInBounds_toArray, List.set_cons_zero, List.set_cons_succ, i64_w, i32_w]
                rfl
              refine one_ (i := 10) (N := some 63) #[true, true, true, true, true, true, true, true, true, true, true, false, false, false, false] rfl rfl (by kernel_rfl) (by decide) (fun K hK => ?_)
              refine goes_ Tryd.func123 (by kernel_rfl) rfl #[.slice (some ⟨g1142, 0, none⟩) 2 2] (by rfl) rfl rfl (by (try simp only [List.map_toArray, List.map_cons, List.map_nil]); first | done | rfl) ?_
              refine (ratio_Mul.calls _ [2, wrap64 ((wrap64 (a714 - 8)) + 1)] (some ⟨g1142, 0, none⟩) 2 t1107 _ ⟨Rd.lit (l := []) (rest := [b7 g717 a713 a714 a715 a716, b10 g720 0 0 0 0 0 0 0 0, b10 g877 t874 (wrap64 (a714 - 8)) (wrap64 ((wrap64 (a714 - 8)) + 1)) t1043 t1070 t1054 0 0, b11 g1124 2 t1095, b11 g1142 2 (wrap64 ((wrap64 (a714 - 8)) + 1))]) (xs := [2, wrap64 ((wrap64 (a714 - 8)) + 1)]) HS.out 4 rfl (by simp)⟩ ⟨Gl.pass (l := []) (rest := [b7 g717 a713 a714 a715 a716, b10 g720 0 0 0 0 0 0 0 0, b10 g877 t874 (wrap64 (a714 - 8)) (wrap64 ((wrap64 (a714 - 8)) + 1)) t1043 t1070 t1054 0 0, b11 g1124 2 t1095, b11 g1142 2 (wrap64 ((wrap64 (a714 - 8)) + 1))]) HGl0.out HS.out⟩ ⟨HS.out.begin (l := []) (rest := [b7 g717 a713 a714 a715 a716, b10 g720 0 0 0 0 0 0 0 0, b10 g877 t874 (wrap64 (a714 - 8)) (wrap64 ((wrap64 (a714 - 8)) + 1)) t1043 t1070 t1054 0 0, b11 g1124 2 t1095, b11 g1142 2 (wrap64 ((wrap64 (a714 - 8)) + 1))])⟩ HA1108).mono ?_
              rintro e_ w1148 ⟨rfl, hS⟩
              replace HS : Aside0 (Sep (fps []) w [b7 g717 a713 a714 a715 a716, b10 g720 0 0 0 0 0 0 0 0, b10 g877 t874 (wrap64 (a714 - 8)) (wrap64 ((wrap64 (a714 - 8)) + 1)) t1043 t1070 t1054 0 0, b11 g1124 2 t1095, b11 g1142 2 (wrap64 ((wrap64 (a714 - 8)) + 1))] w1148) := ⟨HS.out.call (l := []) (rest := [b7 g717 a713 a714 a715 a716, b10 g720 0 0 0 0 0 0 0 0, b10 g877 t874 (wrap64 (a714 - 8)) (wrap64 ((wrap64 (a714 - 8)) + 1)) t1043 t1070 t1054 0 0, b11 g1124 2 t1095, b11 g1142 2 (wrap64 ((wrap64 (a714 - 8)) + 1))]) hS⟩
              clear hS
              refine ⟨_, rfl, ?_⟩
              refine hK.out _ _ (⟨blk_cellv (HS.out.at2) 4 rfl, blk_cellv (HS.out.at0) 3 rfl, blk_cellv (HS.out.at2) 2 rfl⟩) (fun hHeld => ?_)
              clear hK K
              refine norm_ (a' := ?_) ?_ ?_
              rotate_left
              · show Act.put _ (some 63) _ = _
                simp only [Act.put, List.setIfInBounds_toArray, List.set_cons_zero, List.set_cons_succ, i64_w, i32_w]
                rfl
              refine one_ (i := 11) (N := some 64) #[true, true, true, true, true, true, true, true, true, true, true, true, false, false, false] rfl rfl (by kernel_rfl) (by decide) (fun K hK => ?_)
              refine slice_step (n := 2) (by rfl) (N := 64) rfl (cs := #[.int .i64 t1101, .int .i64 t1107]) (t := 3) ?hr ?_
              case hr => first | (go_simp; done) | (go_simp; rfl)
              intro g1149 hg w1150 hbox hb
              replace HS : Aside0 (Sep (fps []) w [b7 g717 a713 a714 a715 a716, b10 g720 0 0 0 0 0 0 0 0, b10 g877 t874 (wrap64 (a714 - 8)) (wrap64 ((wrap64 (a714 - 8)) + 1)) t1043 t1070 t1054 0 0, b11 g1124 2 t1095, b11 g1142 2 (wrap64 ((wrap64 (a714 - 8)) + 1)), b11 g1149 t1101 t1107] w1150) := ⟨HS.out.box hg hbox hb⟩
              clear hg hbox hb
              refine hK.out _ _ (⟨blk_cellv (HS.out.at2) 4 rfl, blk_cellv (HS.out.at0) 3 rfl, blk_cellv (HS.out.at2) 2 rfl⟩) (fun hHeld => ?_)
              clear hK K
              refine norm_ (a' := ?_) ?_ ?_
              rotate_left
              · show Act.put _ (some 64) _ = _
                simp only [Act.put, List.setIfInBounds_toArray, List.set_cons_zero, List.set_cons_succ, i64_w, i32_w]
                rfl
              refine one_ (i := 12) (N := some 65) #[true, true, true, true, true, true, true, true, true, true, true, true, true, false, false] rfl rfl (by kernel_rfl) (by decide) (fun K hK => ?_)
              refine goes_ Tryd.func122 (by kernel_rfl) rfl #[.slice (some ⟨g1149, 0, none⟩) 2 2] (by rfl) rfl rfl (by (try simp only [List.map_toArray, List.map_cons, List.map_nil]); first | done | rfl) ?_
              refine (ratio_Add.calls _ [t1101, t1107] (some ⟨g1149, 0, none⟩) 2 t1113 _ ⟨Rd.lit (l := []) (rest := [b7 g717 a713 a714 a715 a716, b10 g720 0 0 0 0 0 0 0 0, b10 g877 t874 (wrap64 (a714 - 8)) (wrap64 ((wrap64 (a714 - 8)) + 1)) t1043 t1070 t1054 0 0, b11 g1124 2 t1095, b11 g1142 2 (wrap64 ((wrap64 (a714 - 8)) + 1)), b11 g1149 t1101 t1107]) (xs := [t1101, t1107]) HS.out 5 rfl (by simp)⟩ ⟨Gl.pass (l := []) (rest := [b7 g717 a713 a714 a715 a716, b10 g720 0 0 0 0 0 0 0 0, b10 g877 t874 (wrap64 (a714 - 8)) (wrap64 ((wrap64 (a714 - 8)) + 1)) t1043 t1070 t1054 0 0, b11 g1124 2 t1095, b11 g1142 2 (wrap64 ((wrap64 (a714 - 8)) + 1)), b11 g1149 t1101 t1107]) HGl0.out HS.out⟩ ⟨HS.out.begin (l := []) (rest := [b7 g717 a713 a714 a715 a716, b10 g720 0 0 0 0 0 0 0 0, b10 g877 t874 (wrap64 (a714 - 8)) (wrap64 ((wrap64 (a714 - 8)) + 1)) t1043 t1070 t1054 0 0, b11 g1124 2 t1095, b11 g1142 2 (wrap64 ((wrap64 (a714 - 8)) + 1)), b11 g1149 t1101 t1107])⟩ HA1114).mono ?_
              rintro e_ w1153 ⟨rfl, hS⟩
              replace HS : Aside0 (Sep (fps []) w [b7 g717 a713 a714 a715 a716, b10 g720 0 0 0 0 0 0 0 0, b10 g877 t874 (wrap64 (a714 - 8)) (wrap64 ((wrap64 (a714 - 8)) + 1)) t1043 t1070 t1054 0 0, b11 g1124 2 t1095, b11 g1142 2 (wrap64 ((wrap64 (a714 - 8)) + 1)), b11 g1149 t1101 t1107] w1153) := ⟨HS.out.call (l := []) (rest := [b7 g717 a713 a714 a715 a716, b10 g720 0 0 0 0 0 0 0 0, b10 g877 t874 (wrap64 (a714 - 8)) (wrap64 ((wrap64 (a714 - 8)) + 1)) t1043 t1070 t1054 0 0, b11 g1124 2 t1095, b11 g1142 2 (wrap64 ((wrap64 (a714 - 8)) + 1)), b11 g1149 t1101 t1107]) hS⟩
              clear hS
              refine ⟨_, rfl, ?_⟩
              refine hK.out _ _ (⟨blk_cellv (HS.out.at2) 4 rfl, blk_cellv (HS.out.at0) 3 rfl, blk_cellv (HS.out.at2) 2 rfl⟩) (fun hHeld => ?_)
              clear hK K
              refine norm_ (a' := ?_) ?_ ?_
              rotate_left
              · show Act.put _ (some 65) _ = _
                simp only [Act.put, List.setIfInBounds_toArray, List.set_cons_zero, List.set_cons_succ, i64_w, i32_w]
                rfl
              refine pure_ (i := 13) (N := some 66) (v := ?_) (a' := ?_) #[true, true, true, true, true, true, true, true, true, true, true, true, true, true, false] rfl rfl (by kernel_rfl) (fun _ _ _ h => h) (Or.inl ⟨by rfl, ?_⟩) ?_ ?_
              rotate_left
              · intro w'
                go_simp
                with_reducible rfl
              rotate_left
              · simp only [Act.put, List.setIfInBounds_toArray, List.set_cons_zero, List.set_cons_succ, i64_w, i32_w]
                rfl
              refine one_ (i := 14) (N := none) #[true, true, true, true, true, true, true, true, true, true, true, true, true, true, true] rfl rfl (by kernel_rfl) (by decide) (fun K hK => ?_)
              have hc1155 := blk_cellv (v := .int .i64 0) (HS.out.at2) 6 rfl
              have hz1156 := blk_fz (HS.out.at2) 6
              refine store_step (w1 := (World.setCell w1153 ⟨g877, 6, none⟩ (.int .i64 t1113))) (by rfl) rfl ?hr ?_
              case hr => first | (go_simp; done) | (go_simp; rfl)
              clear hc1155 hz1156
              intro w1154 hst
              have hq0 : Sep (fps []) w [b7 g717 a713 a714 a715 a716, b10 g720 0 0 0 0 0 0 0 0, b10 g877 t874 (wrap64 (a714 - 8)) (wrap64 ((wrap64 (a714 - 8)) + 1)) t1043 t1070 t1054 t1113 0, b11 g1124 2 t1095, b11 g1142 2 (wrap64 ((wrap64 (a714 - 8)) + 1)), b11 g1149 t1101 t1107] (World.setCell w1153 ⟨g877, 6, none⟩ (.int .i64 t1113)) := (HS.out).set1 (l1 := [b7 g717 a713 a714 a715 a716, b10 g720 0 0 0 0 0 0 0 0]) (l2 := [b11 g1124 2 t1095, b11 g1142 2 (wrap64 ((wrap64 (a714 - 8)) + 1)), b11 g1149 t1101 t1107]) 6 (.int .i64 t1113)
              have HS_ : Aside0 (Sep (fps []) w [b7 g717 a713 a714 a715 a716, b10 g720 0 0 0 0 0 0 0 0, b10 g877 t874 (wrap64 (a714 - 8)) (wrap64 ((wrap64 (a714 - 8)) + 1)) t1043 t1070 t1054 t1113 0, b11 g1124 2 t1095, b11 g1142 2 (wrap64 ((wrap64 (a714 - 8)) + 1)), b11 g1149 t1101 t1107] w1154) := ⟨by rw [hst]; exact hq0⟩
              clear hq0
              clear HS hst
              have HS := HS_
              clear HS_
              refine hK.out _ _ (⟨blk_cellv (HS.out.at2) 4 rfl, blk_cellv (HS.out.at0) 3 rfl, blk_cellv (HS.out.at2) 2 rfl⟩) (fun hHeld => ?_)
              clear hK K
              refine done_ (by kernel_rfl) ?_
              go_wp2_with fail
              go_meet
              case rel => exact ⟨g1124, g1142, g1149, ⟨((((((HS.out).front 5 (by simp)).front 5 (by simp)).front 5 (by simp)).front 5 (by simp)).front 5 (by simp)).front 5 (by simp)⟩⟩
          · refine slice_step (n := 2) (by rfl) (N := 62) rfl (cs := #[.int .i64 2, .int .i64 (wrap64 ((wrap64 (a714 - 8)) + 1))]) (t := 3) ?hr ?_
            case hr => first | (go_simp; done) | (go_simp; rfl)
            intro g1157 hg w1158 hbox hb
            replace HS : Aside0 (Sep (fps []) w [b7 g717 a713 a714 a715 a716, b10 g720 0 0 0 0 0 0 0 0, b10 g877 t874 (wrap64 (a714 - 8)) (wrap64 ((wrap64 (a714 - 8)) + 1)) t1043 t1070 t1054 0 0, b11 g1157 2 (wrap64 ((wrap64 (a714 - 8)) + 1))] w1158) := ⟨HS.out.box hg hbox hb⟩
            clear hg hbox hb
            refine hK.out _ _ (⟨blk_cellv (HS.out.at2) 4 rfl, blk_cellv (HS.out.at0) 3 rfl, blk_cellv (HS.out.at2) 2 rfl⟩) (fun hHeld => ?_)
            clear hK K
            refine norm_ (a' := ?_) ?_ ?_
            rotate_left
            · show Act.put _ (some 62) _ = _
              simp only [Act.put, List.setIfInBounds_toArray, List.set_cons_zero, List.set_cons_succ, i64_w, i32_w]
              rfl
            refine one_ (i := 5) (N := some 58) #[true, true, true, true, true, true, false, true, true, true, false, false, false, false, false] rfl rfl (by kernel_rfl) (by decide) (fun K hK => ?_)
            refine slice_step (n := 2) (by rfl) (N := 58) rfl (cs := #[.int .i64 2, .int .i64 t1095]) (t := 3) ?hr ?_
            case hr => first | (go_simp; done) | (go_simp; rfl)
            intro g1160 hg w1161 hbox hb
            replace HS : Aside0 (Sep (fps []) w [b7 g717 a713 a714 a715 a716, b10 g720 0 0 0 0 0 0 0 0, b10 g877 t874 (wrap64 (a714 - 8)) (wrap64 ((wrap64 (a714 - 8)) + 1)) t1043 t1070 t1054 0 0, b11 g1157 2 (wrap64 ((wrap64 (a714 - 8)) + 1)), b11 g1160 2 t1095] w1161) := ⟨HS.out.box hg hbox hb⟩
            clear hg hbox hb
            refine hK.out _ _ (⟨blk_cellv (HS.out.at2) 4 rfl, blk_cellv (HS.out.at0) 3 rfl, blk_cellv (HS.out.at2) 2 rfl⟩) (fun hHeld => ?_)
            clear hK K
            refine norm_ (a' := ?_) ?_ ?_
            rotate_left
            · show Act.put _ (some 58) _ = _
              simp only [Act.put, List.setIfInBounds_toArray, List.set_cons_zero, List.set_cons_succ, i64_w, i32_w]
              rfl
            refine one_ (i := 6) (N := some 59) #[true, true, true, true, true, true, true, true, true, true, false, false, false, false, false] rfl rfl (by kernel_rfl) (by decide) (fun K hK => ?_)
            refine goes_ Tryd.func123 (by kernel_rfl) rfl #[.slice (some ⟨g1160, 0, none⟩) 2 2] (by rfl) rfl rfl (by (try simp only [List.map_toArray, List.map_cons, List.map_nil]); first | done | rfl) ?_
            refine (ratio_Mul.calls _ [2, t1095] (some ⟨g1160, 0, none⟩) 2 t1101 _ ⟨Rd.lit (l := []) (rest := [b7 g717 a713 a714 a715 a716, b10 g720 0 0 0 0 0 0 0 0, b10 g877 t874 (wrap64 (a714 - 8)) (wrap64 ((wrap64 (a714 - 8)) + 1)) t1043 t1070 t1054 0 0, b11 g1157 2 (wrap64 ((wrap64 (a714 - 8)) + 1)), b11 g1160 2 t1095]) (xs := [2, t1095]) HS.out 4 rfl (by simp)⟩ ⟨Gl.pass (l := []) (rest := [b7 g717 a713 a714 a715 a716, b10 g720 0 0 0 0 0 0 0 0, b10 g877 t874 (wrap64 (a714 - 8)) (wrap64 ((wrap64 (a714 - 8)) + 1)) t1043 t1070 t1054 0 0, b11 g1157 2 (wrap64 ((wrap64 (a714 - 8)) + 1)), b11 g1160 2 t1095]) HGl0.out HS.out⟩ ⟨HS.out.begin (l := []) (rest := [b7 g717 a713 a714 a715 a716, b10 g720 0 0 0 0 0 0 0 0, b10 g877 t874 (wrap64 (a714 - 8)) (wrap64 ((wrap64 (a714 - 8)) + 1)) t1043 t1070 t1054 0 0, b11 g1157 2 (wrap64 ((wrap64 (a714 - 8)) + 1)), b11 g1160 2 t1095])⟩ HA1102).mono ?_
            rintro e_ w1164 ⟨rfl, hS⟩
            replace HS : Aside0 (Sep (fps []) w [b7 g717 a713 a714 a715 a716, b10 g720 0 0 0 0 0 0 0 0, b10 g877 t874 (wrap64 (a714 - 8)) (wrap64 ((wrap64 (a714 - 8)) + 1)) t1043 t1070 t1054 0 0, b11 g1157 2 (wrap64 ((wrap64 (a714 - 8)) + 1)), b11 g1160 2 t1095] w1164) := ⟨HS.out.call (l := []) (rest := [b7 g717 a713 a714 a715 a716, b10 g720 0 0 0 0 0 0 0 0, b10 g877 t874 (wrap64 (a714 - 8)) (wrap64 ((wrap64 (a714 - 8)) + 1)) t1043 t1070 t1054 0 0, b11 g1157 2 (wrap64 ((wrap64 (a714 - 8)) + 1)), b11 g1160 2 t1095]) hS⟩
            clear hS
            refine ⟨_, rfl, ?_⟩
            refine hK.out _ _ (⟨blk_cellv (HS.out.at2) 4 rfl, blk_cellv (HS.out.at0) 3 rfl, blk_cellv (HS.out.at2) 2 rfl⟩) (fun hHeld => ?_)
            clear hK K
            refine norm_ (a' := ?_) ?_ ?_
            rotate_left
            · show Act.put _ (some 59) _ = _
              simp only [Act.put, List.setIfInBounds_toArray, List.set_cons_zero, List.set_cons_succ, i64_w, i32_w]
              rfl
            refine one_ (i := 10) (N := some 63) #[true, true, true, true, true, true, true, true, true, true, true, false, false, false, false] rfl rfl (by kernel_rfl) (by decide) (fun K hK => ?_)
            refine goes_ Tryd.func123 (by kernel_rfl) rfl #[.slice (some ⟨g1157, 0, none⟩) 2 2] (by rfl) rfl rfl (by (try simp only [List.map_toArray, List.map_cons, List.map_nil]); first | done | rfl) ?_
            refine (ratio_Mul.calls _ [2, wrap64 ((wrap64 (a714 - 8)) + 1)] (some ⟨g1157, 0, none⟩) 2 t1107 _ ⟨Rd.lit (l := []) (rest := [b7 g717 a713 a714 a715 a716, b10 g720 0 0 0 0 0 0 0 0, b10 g877 t874 (wrap64 (a714 - 8)) (wrap64 ((wrap64 (a714 - 8)) + 1)) t1043 t1070 t1054 0 0, b11 g1157 2 (wrap64 ((wrap64 (a714 - 8)) + 1)), b11 g1160 2 t1095]) (xs := [2, wrap64 ((wrap64 (a714 - 8)) + 1)]) HS.out 3 rfl (by simp)⟩ ⟨Gl.pass (l := []) (rest := [b7 g717 a713 a714 a715 a716, b10 g720 0 0 0 0 0 0 0 0, b10 g877 t874 (wrap64 (a714 - 8)) (wrap64 ((wrap64 (a714 - 8)) + 1)) t1043 t1070 t1054 0 0, b11 g1157 2 (wrap64 ((wrap64 (a714 - 8)) + 1)), b11 g1160 2 t1095]) HGl0.out HS.out⟩ ⟨HS.out.begin (l := []) (rest := [b7 g717 a713 a714 a715 a716, b10 g720 0 0 0 0 0 0 0 0, b10 g877 t874 (wrap64 (a714 - 8)) (wrap64 ((wrap64 (a714 - 8)) + 1)) t1043 t1070 t1054 0 0, b11 g1157 2 (wrap64 ((wrap64 (a714 - 8)) + 1)), b11 g1160 2 t1095])⟩ HA1108).mono ?_
            rintro e_ w1166 ⟨rfl, hS⟩
            replace HS : Aside0 (Sep (fps []) w [b7 g717 a713 a714 a715 a716, b10 g720 0 0 0 0 0 0 0 0, b10 g877 t874 (wrap64 (a714 - 8)) (wrap64 ((wrap64 (a714 - 8)) + 1)) t1043 t1070 t1054 0 0, b11 g1157 2 (wrap64 ((wrap64 (a714 - 8)) + 1)), b11 g1160 2 t1095] w1166) := ⟨HS.out.call (l := []) (rest := [b7 g717 a713 a714 a715 a716, b10 g720 0 0 0 0 0 0 0 0, b10 g877 t874 (wrap64 (a714 - 8)) (wrap64 ((wrap64 (a714 - 8)) + 1)) t1043 t1070 t1054 0 0, b11 g1157 2 (wrap64 ((wrap64 (a714 - 8)) + 1)), b11 g1160 2 t1095]) hS⟩
            clear hS
            refine ⟨_, rfl, ?_⟩
            refine hK.out _ _ (⟨blk_cellv (HS.out.at2) 4 rfl, blk_cellv (HS.out.at0) 3 rfl, blk_cellv (HS.out.at2) 2 rfl⟩) (fun hHeld => ?_)
            clear hK K
            refine norm_ (a' := ?_) ?_ ?_
            rotate_left
            · show Act.put _ (some 63) _ = _
              simp only [Act.put, List.setIfInBounds_toArray, List.set_cons_zero, List.set_cons_succ, i64_w, i32_w]
              rfl
            refine one_ (i := 11) (N := some 64) #[true, true, true, true, true, true, true, true, true, true, true, true, false, false, false] rfl rfl (by kernel_rfl) (by decide) (fun K hK => ?_)
            refine slice_step (n := 2) (by rfl) (N := 64) rfl (cs := #[.int .i64 t1101, .int .i64 t1107]) (t := 3) ?hr ?_
            case hr => first | (go_simp; done) | (go_simp; rfl)
            intro g1167 hg w1168 hbox hb
            replace HS : Aside0 (Sep (fps []) w [b7 g717 a713 a714 a715 a716, b10 g720 0 0 0 0 0 0 0 0, b10 g877 t874 (wrap64 (a714 - 8)) (wrap64 ((wrap64 (a714 - 8)) + 1)) t1043 t1070 t1054 0 0, b11 g1157 2 (wrap64 ((wrap64 (a714 - 8)) + 1)), b11 g1160 2 t1095, b11 g1167 t1101 t1107] w1168) := ⟨HS.out.box hg hbox hb⟩
            clear hg hbox hb
            refine hK.out _ _ (⟨blk_cellv (HS.out.at2) 4 rfl, blk_cellv (HS.out.at0) 3 rfl, blk_cellv (HS.out.at2) 2 rfl⟩) (fun hHeld => ?_)
            clear hK K
            refine norm_ (a' := ?_) ?_ ?_
            rotate_left
            · show Act.put _ (some 64) _ = _
              simp only [Act.put, List.setIfInBounds_toArray, List.set_cons_zero, List.set_cons_succ, i64_w, i32_w]
              rfl
            refine one_ (i := 12) (N := some 65) #[true, true, true, true, true, true, true, true, true, true, true, true, true, false, false] rfl rfl (by kernel_rfl) (by decide) (fun K hK => ?_)
            refine goes_ Tryd.func122 (by kernel_rfl) rfl #[.slice (some ⟨g1167, 0, none⟩) 2 2] (by rfl) rfl rfl (by (try simp only [List.map_toArray, List.map_cons, List.map_nil]); first | done | rfl) ?_
            refine (ratio_Add.calls _ [t1101, t1107] (some ⟨g1167, 0, none⟩) 2 t1113 _ ⟨Rd.lit (l := []) (rest := [b7 g717 a713 a714 a715 a716, b10 g720 0 0 0 0 0 0 0 0, b10 g877 t874 (wrap64 (a714 - 8)) (wrap64 ((wrap64 (a714 - 8)) + 1)) t1043 t1070 t1054 0 0, b11 g1157 2 (wrap64 ((wrap64 (a714 - 8)) + 1)), b11 g1160 2 t1095, b11 g1167 t1101 t1107]) (xs := [t1101, t1107]) HS.out 5 rfl (by simp)⟩ ⟨Gl.pass (l := []) (rest := [b7 g717 a713 a714 a715 a716, b10 g720 0 0 0 0 0 0 0 0, b10 g877 t874 (wrap64 (a714 - 8)) (wrap64 ((wrap64 (a714 - 8)) + 1)) t1043 t1070 t1054 0 0, b11 g1157 2 (wrap64 ((wrap64 (a714 - 8)) + 1)), b11 g1160 2 t1095, b11 g1167 t1101 t1107]) HGl0.out HS.out⟩ ⟨HS.out.begin (l := []) (rest := [b7 g717 a713 a714 a715 a716, b10 g720 0 0 0 0 0 0 0 0, b10 g877 t874 (wrap64 (a714 - 8)) (wrap64 ((wrap64 (a714 - 8)) + 1)) t1043 t1070 t1054 0 0, b11 g1157 2 (wrap64 ((wrap64 (a714 - 8)) + 1)), b11 g1160 2 t1095, b11 g1167 t1101 t1107])⟩ HA1114).mono ?_
            rintro e_ w1171 ⟨rfl, hS⟩
            replace HS : Aside0 (Sep (fps []) w [b7 g717 a713 a714 a715 a716, b10 g720 0 0 0 0 0 0 0 0, b10 g877 t874 (wrap64 (a714 - 8)) (wrap64 ((wrap64 (a714 - 8)) + 1)) t1043 t1070 t1054 0 0, b11 g1157 2 (wrap64 ((wrap64 (a714 - 8)) + 1)), b11 g1160 2 t1095, b11 g1167 t1101 t1107] w1171) := ⟨HS.out.call (l := []) (rest := [b7 g717 a713 a714 a715 a716, b10 g720 0 0 0 0 0 0 0 0, b10 g877 t874 (wrap64 (a714 - 8)) (wrap64 ((wrap64 (a714 - 8)) + 1)) t1043 t1070 t1054 0 0, b11 g1157 2 (wrap64 ((wrap64 (a714 - 8)) + 1)), b11 g1160 2 t1095, b11 g1167 t1101 t1107]) hS⟩
            clear hS
            refine ⟨_, rfl, ?_⟩
            refine hK.out _ _ (⟨blk_cellv (HS.out.at2) 4 rfl, blk_cellv (HS.out.at0) 3 rfl, blk_cellv (HS.out.at2) 2 rfl⟩) (fun hHeld => ?_)
            clear hK K
            refine norm_ (a' := ?_) ?_ ?_
            rotate_left
            · show Act.put _ (some 65) _ = _
              simp only [Act.put, List.setIfInBounds_toArray, List.set_cons_zero, List.set_cons_succ, i64_w, i32_w]
              rfl
            refine pure_ (i := 13) (N := some 66) (v := ?_) (a' := ?_) #[true, true, true, true, true, true, true, true, true, true, true, true, true, true, false] rfl rfl (by kernel_rfl) (fun _ _ _ h => h) (Or.inl ⟨by rfl, ?_⟩) ?_ ?_
            rotate_left
            · intro w'
              go_simp
              with_reducible rfl
            rotate_left
            · simp only [Act.put, List.setIfInBounds_toArray, List.set_cons_zero, List.set_cons_succ, i64_w, i32_w]
              rfl
            refine one_ (i := 14) (N := none) #[true, true, true, true, true, true, true, true, true, true, true, true, true, true, true] rfl rfl (by kernel_rfl) (by decide) (fun K hK => ?_)
            have hc1173 := blk_cellv (v := .int .i64 0) (HS.out.at2) 6 rfl
            have hz1174 := blk_fz (HS.out.at2) 6
            refine store_step (w1 := (World.setCell w1171 ⟨g877, 6, none⟩ (.int .i64 t1113))) (by rfl) rfl ?hr ?_
            case hr => first | (go_simp; done) | (go_simp; rfl)
            clear hc1173 hz1174
            intro w1172 hst
            have hq0 : Sep (fps []) w [b7 g717 a713 a714 a715 a716, b10 g720 0 0 0 0 0 0 0 0, b10 g877 t874 (wrap64 (a714 - 8)) (wrap64 ((wrap64 (a714 - 8)) + 1)) t1043 t1070 t1054 t1113 0, b11 g1157 2 (wrap64 ((wrap64 (a714 - 8)) + 1)), b11 g1160 2 t1095, b11 g1167 t1101 t1107] (World.setCell w1171 ⟨g877, 6, none⟩ (.int .i64 t1113)) := (HS.out).set1 (l1 := [b7 g717 a713 a714 a715 a716, b10 g720 0 0 0 0 0 0 0 0]) (l2 := [b11 g1157 2 (wrap64 ((wrap64 (a714 - 8)) + 1)), b11 g1160 2 t1095, b11 g1167 t1101 t1107]) 6 (.int .i64 t1113)
            have HS_ : Aside0 (Sep (fps []) w [b7 g717 a713 a714 a715 a716, b10 g720 0 0 0 0 0 0 0 0, b10 g877 t874 (wrap64 (a714 - 8)) (wrap64 ((wrap64 (a714 - 8)) + 1)) t1043 t1070 t1054 t1113 0, b11 g1157 2 (wrap64 ((wrap64 (a714 - 8)) + 1)), b11 g1160 2 t1095, b11 g1167 t1101 t1107] w1172) := ⟨by rw [hst]; exact hq0⟩
            clear hq0
            clear HS hst
            have HS := HS_
            clear HS_
            refine hK.out _ _ (⟨blk_cellv (HS.out.at2) 4 rfl, blk_cellv (HS.out.at0) 3 rfl, blk_cellv (HS.out.at2) 2 rfl⟩) (fun hHeld => ?_)
            clear hK K
            refine done_ (by kernel_rfl) ?_
            go_wp2_with fail
            go_meet
            case rel => exact ⟨g1160, g1157, g1167, ⟨((((((HS.out).front 5 (by simp)).front 4 (by simp)).front 5 (by simp)).front 5 (by simp)).front 5 (by simp)).front 5 (by simp)⟩⟩
        · refine slice_step (n := 2) (by rfl) (N := 62) rfl (cs := #[.int .i64 2, .int .i64 (wrap64 ((wrap64 (a714 - 8)) + 1))]) (t := 3) ?hr ?_
          case hr => first | (go_simp; done) | (go_simp; rfl)
          intro g1175 hg w1176 hbox hb
          replace HS : Aside0 (Sep (fps []) w [b7 g717 a713 a714 a715 a716, b10 g720 0 0 0 0 0 0 0 0, b10 g877 t874 (wrap64 (a714 - 8)) (wrap64 ((wrap64 (a714 - 8)) + 1)) t1043 t1070 t1054 0 0, b11 g1175 2 (wrap64 ((wrap64 (a714 - 8)) + 1))] w1176) := ⟨HS.out.box hg hbox hb⟩
          clear hg hbox hb
          refine hK.out _ _ (⟨blk_cellv (HS.out.at2) 4 rfl, blk_cellv (HS.out.at0) 3 rfl, blk_cellv (HS.out.at2) 2 rfl⟩) (fun hHeld => ?_)
          clear hK K
          refine norm_ (a' := ?_) ?_ ?_
          rotate_left
          · show Act.put _ (some 62) _ = _
            simp only [Act.put, List.setIfInBounds_toArray, List.set_cons_zero, List.set_cons_succ, i64_w, i32_w]
            rfl
          refine one_ (i := 4) (N := some 57) #[true, true, true, true, true, false, false, true, true, true, false, false, false, false, false] rfl rfl (by kernel_rfl) (by decide) (fun K hK => ?_)
          refine goes_ Tryd.func124 (by kernel_rfl) rfl #[.int .i64 t1070, .int .i64 a716] (by rfl) rfl rfl (by (try simp only [List.map_toArray, List.map_cons, List.map_nil]); first | done | rfl) ?_
          refine (ratio_Up.calls t1070 a716 t1095 _ ⟨Gl.pass (l := []) (rest := [b7 g717 a713 a714 a715 a716, b10 g720 0 0 0 0 0 0 0 0, b10 g877 t874 (wrap64 (a714 - 8)) (wrap64 ((wrap64 (a714 - 8)) + 1)) t1043 t1070 t1054 0 0, b11 g1175 2 (wrap64 ((wrap64 (a714 - 8)) + 1))]) HGl0.out HS.out⟩ ⟨HS.out.begin (l := []) (rest := [b7 g717 a713 a714 a715 a716, b10 g720 0 0 0 0 0 0 0 0, b10 g877 t874 (wrap64 (a714 - 8)) (wrap64 ((wrap64 (a714 - 8)) + 1)) t1043 t1070 t1054 0 0, b11 g1175 2 (wrap64 ((wrap64 (a714 - 8)) + 1))])⟩ HA1096).mono ?_
          rintro e_ w1179 ⟨rfl, hS⟩
          replace HS : Aside0 (Sep (fps []) w [b7 g717 a713 a714 a715 a716, b10 g720 0 0 0 0 0 0 0 0, b10 g877 t874 (wrap64 (a714 - 8)) (wrap64 ((wrap64 (a714 - 8)) + 1)) t1043 t1070 t1054 0 0, b11 g1175 2 (wrap64 ((wrap64 (a714 - 8)) + 1))] w1179) := ⟨HS.out.call (l := []) (rest := [b7 g717 a713 a714 a715 a716, b10 g720 0 0 0 0 0 0 0 0, b10 g877 t874 (wrap64 (a714 - 8)) (wrap64 ((wrap64 (a714 - 8)) + 1)) t1043 t1070 t1054 0 0, b11 g1175 2 (wrap64 ((wrap64 (a714 - 8)) + 1))]) hS⟩
          clear hS
          refine ⟨_, rfl, ?_⟩
          refine hK.out _ _ (⟨blk_cellv (HS.out.at2) 4 rfl, blk_cellv (HS.out.at0) 3 rfl, blk_cellv (HS.out.at2) 2 rfl⟩) (fun hHeld => ?_)
          clear hK K
          refine norm_ (a' := ?_) ?_ ?_
          rotate_left
          · show Act.put _ (some 57) _ = _
            simp only [Act.put, List.setIfInBounds_toArray, List.set_cons_zero, List.set_cons_succ, i64_w, i32_w]
            rfl
          refine one_ (i := 5) (N := some 58) #[true, true, true, true, true, true, false, true, true, true, false, false, false, false, false] rfl rfl (by kernel_rfl) (by decide) (fun K hK => ?_)
          refine slice_step (n := 2) (by rfl) (N := 58) rfl (cs := #[.int .i64 2, .int .i64 t1095]) (t := 3) ?hr ?_
          case hr => first | (go_simp; done) | (go_simp; rfl)
          intro g1180 hg w1181 hbox hb
          replace HS : Aside0 (Sep (fps []) w [b7 g717 a713 a714 a715 a716, b10 g720 0 0 0 0 0 0 0 0, b10 g877 t874 (wrap64 (a714 - 8)) (wrap64 ((wrap64 (a714 - 8)) + 1)) t1043 t1070 t1054 0 0, b11 g1175 2 (wrap64 ((wrap64 (a714 - 8)) + 1)), b11 g1180 2 t1095] w1181) := ⟨HS.out.box hg hbox hb⟩
          clear hg hbox hb
          refine hK.out _ _ (⟨blk_cellv (HS.out.at2) 4 rfl, blk_cellv (HS.out.at0) 3 rfl, blk_cellv (HS.out.at2) 2 rfl⟩) (fun hHeld => ?_)
          clear hK K
          refine norm_ (a' := ?_) ?_ ?_
          rotate_left
          · show Act.put _ (some 58) _ = _
            simp only [Act.put, List.setIfInBounds_toArray, List.set_cons_zero, List.set_cons_succ, i64_w, i32_w]
            rfl
          refine one_ (i := 6) (N := some 59) #[true, true, true, true, true, true, true, true, true, true, false, false, false, false, false] rfl rfl (by kernel_rfl) (by decide) (fun K hK => ?_)
          refine goes_ Tryd.func123 (by kernel_rfl) rfl #[.slice (some ⟨g1180, 0, none⟩) 2 2] (by rfl) rfl rfl (by (try simp only [List.map_toArray, List.map_cons, List.map_nil]); first | done | rfl) ?_
          refine (ratio_Mul.calls _ [2, t1095] (some ⟨g1180, 0, none⟩) 2 t1101 _ ⟨Rd.lit (l := []) (rest := [b7 g717 a713 a714 a715 a716, b10 g720 0 0 0 0 0 0 0 0, b10 g877 t874 (wrap64 (a714 - 8)) (wrap64 ((wrap64 (a714 - 8)) + 1)) t1043 t1070 t1054 0 0, b11 g1175 2 (wrap64 ((wrap64 (a714 - 8)) + 1)), b11 g1180 2 t1095]) (xs := [2, t1095]) HS.out 4 rfl (by simp)⟩ ⟨Gl.pass (l := []) (rest := [b7 g717 a713 a714 a715 a716, b10 g720 0 0 0 0 0 0 0 0, b10 g877 t874 (wrap64 (a714 - 8)) (wrap64 ((wrap64 (a714 - 8)) + 1)) t1043 t1070 t1054 0 0, b11 g1175 2 (wrap64 ((wrap64 (a714 - 8)) + 1)), b11 g1180 2 t1095]) HGl0.out HS.out⟩ ⟨HS.out.begin (l := []) (rest := [b7 g717 a713 a714 a715 a716, b10 g720 0 0 0 0 0 0 0 0, b10 g877 t874 (wrap64 (a714 - 8)) (wrap64 ((wrap64 (a714 - 8)) + 1)) t1043 t1070 t1054 0 0, b11 g1175 2 (wrap64 ((wrap64 (a714 - 8)) + 1)), b11 g1180 2 t1095])⟩ HA1102).mono ?_
          rintro e_ w1184 ⟨rfl, hS⟩
          replace HS : Aside0 (Sep (fps []) w [b7 g717 a713 a714 a715 a716, b10 g720 0 0 0 0 0 0 0 0, b10 g877 t874 (wrap64 (a714 - 8)) (wrap64 ((wrap64 (a714 - 8)) + 1)) t1043 t1070 t1054 0 0, b11 g1175 2 (wrap64 ((wrap64 (a714 - 8)) + 1)), b11 g1180 2 t1095] w1184) := ⟨HS.out.call (l := []) (rest := [b7 g717 a713 a714 a715 a716, b10 g720 0 0 0 0 0 0 0 0, b10 g877 t874 (wrap64 (a714 - 8)) (wrap64 ((wrap64 (a714 - 8)) + 1)) t1043 t1070 t1054 0 0, b11 g1175 2 (wrap64 ((wrap64 (a714 - 8)) + 1)), b11 g1180 2 t1095]) hS⟩
          clear hS
          refine ⟨_, rfl, ?_⟩
          refine hK.out _ _ (⟨blk_cellv (HS.out.at2) 4 rfl, blk_cellv (HS.out.at0) 3 rfl, blk_cellv (HS.out.at2) 2 rfl⟩) (fun hHeld => ?_)
          clear hK K
          refine norm_ (a' := ?_) ?_ ?_
          rotate_left
          · show Act.put _ (some 59) _ = _
            simp only [Act.put, List.setIfInBounds_toArray, List.set_cons_zero, List.set_cons_succ, i64_w, i32_w]
            rfl
          refine one_ (i := 10) (N := some 63) #[true, true, true, true, true, true, true, true, true, true, true, false, false, false, false] rfl rfl (by kernel_rfl) (by decide) (fun K hK => ?_)
          refine goes_ Tryd.func123 (by kernel_rfl) rfl #[.slice (some ⟨g1175, 0, none⟩) 2 2] (by rfl) rfl rfl (by (try simp only [List.map_toArray, List.map_cons, List.map_nil]); first | done | rfl) ?_
          refine (ratio_Mul.calls _ [2, wrap64 ((wrap64 (a714 - 8)) + 1)] (some ⟨g1175, 0, none⟩) 2 t1107 _ ⟨Rd.lit (l := []) (rest := [b7 g717 a713 a714 a715 a716, b10 g720 0 0 0 0 0 0 0 0, b10 g877 t874 (wrap64 (a714 - 8)) (wrap64 ((wrap64 (a714 - 8)) + 1)) t1043 t1070 t1054 0 0, b11 g1175 2 (wrap64 ((wrap64 (a714 - 8)) + 1)), b11 g1180 2 t1095]) (xs := [2, wrap64 ((wrap64 (a714 - 8)) + 1)]) HS.out 3 rfl (by simp)⟩ ⟨Gl.pass (l := []) (rest := [b7 g717 a713 a714 a715 a716, b10 g720 0 0 0 0 0 0 0 0, b10 g877 t874 (wrap64 (a714 - 8)) (wrap64 ((wrap64 (a714 - 8)) + 1)) t1043 t1070 t1054 0 0, b11 g1175 2 (wrap64 ((wrap64 (a714 - 8)) + 1)), b11 g1180 2 t1095]) HGl0.out HS.out⟩ ⟨HS.out.begin (l := []) (rest := [b7 g717 a713 a714 a715 a716, b10 g720 0 0 0 0 0 0 0 0, b10 g877 t874 (wrap64 (a714 - 8)) (wrap64 ((wrap64 (a714 - 8)) + 1)) t1043 t1070 t1054 0 0, b11 g1175 2 (wrap64 ((wrap64 (a714 - 8)) + 1)), b11 g1180 2 t1095])⟩ HA1108).mono ?_
          rintro e_ w1186 ⟨rfl, hS⟩
          replace HS : Aside0 (Sep (fps []) w [b7 g717 a713 a714 a715 a716, b10 g720 0 0 0 0 0 0 0 0, b10 g877 t874 (wrap64 (a714 - 8)) (wrap64 ((wrap64 (a714 - 8)) + 1)) t1043 t1070 t1054 0 0, b11 g1175 2 (wrap64 ((wrap64 (a714 - 8)) + 1)), b11 g1180 2 t1095] w1186) := ⟨HS.out.call (l := []) (rest := [b7 g717 a713 a714 a715 a716, b10 g720 0 0 0 0 0 0 0 0, b10 g877 t874 (wrap64 (a714 - 8)) (wrap64 ((wrap64 (a714 - 8)) + 1)) t1043 t1070 t1054 0 0, b11 g1175 2 (wrap64 ((wrap64 (a714 - 8)) + 1)), b11 g1180 2 t1095]) hS⟩
          clear hS
          refine ⟨_, rfl, ?_⟩
          refine hK.out _ _ (⟨blk_cellv (HS.out.at2) 4 rfl, blk_cellv (HS.out.at0) 3 rfl, blk_cellv (HS.out.at2) 2 rfl⟩) (fun hHeld => ?_)
          clear hK K
          refine norm_ (a' := ?_) ?_ ?_
          rotate_left
          · show Act.put _ (some 63) _ = _
            simp only [Act.put, List.setIfInBounds_toArray, List.set_cons_zero, List.set_cons_succ, i64_w, i32_w]
            rfl
          refine one_ (i := 11) (N := some 64) #[true, true, true, true, true, true, true, true, true, true, true, true, false, false, false] rfl rfl (by kernel_rfl) (by decide) (fun K hK => ?_)
          refine slice_step (n := 2) (by rfl) (N := 64) rfl (cs := #[.int .i64 t1101, .int .i64 t1107]) (t := 3) ?hr ?_
          case hr => first | (go_simp; done) | (go_simp; rfl)
          intro g1187 hg w1188 hbox hb
          replace HS : Aside0 (Sep (fps []) w [b7 g717 a713 a714 a715 a716, b10 g720 0 0 0 0 0 0 0 0, b10 g877 t874 (wrap64 (a714 - 8)) (wrap64 ((wrap64 (a714 - 8)) + 1)) t1043 t1070 t1054 0 0, b11 g1175 2 (wrap64 ((wrap64 (a714 - 8)) + 1)), b11 g1180 2 t1095, b11 g1187 t1101 t1107] w1188) := ⟨HS.out.box hg hbox hb⟩
          clear hg hbox hb
          refine hK.out _ _ (⟨blk_cellv (HS.out.at2) 4 rfl, blk_cellv (HS.out.at0) 3 rfl, blk_cellv (HS.out.at2) 2 rfl⟩) (fun hHeld => ?_)
          clear hK K
          refine norm_ (a' := ?_) ?_ ?_
          rotate_left
          · show Act.put _ (some 64) _ = _
            simp only [Act.put, List.setIfInBounds_toArray, List.set_cons_zero, List.set_cons_succ, i64_w, i32_w]
            rfl
          refine one_ (i := 12) (N := some 65) #[true, true, true, true, true, true, true, true, true, true, true, true, true, false, false] rfl rfl (by kernel_rfl) (by decide) (fun K hK => ?_)
          refine goes_ Tryd.func122 (by kernel_rfl) rfl #[.slice (some ⟨g1187, 0, none⟩) 2 2] (by rfl) rfl rfl (by (try simp only [List.map_toArray, List.map_cons, List.map_nil]); first | done | rfl) ?_
          refine (ratio_Add.calls _ [t1101, t1107] (some ⟨g1187, 0, none⟩) 2 t1113 _ ⟨Rd.lit (l := []) (rest := [b7 g717 a713 a714 a715 a716, b10 g720 0 0 0 0 0 0 0 0, b10 g877 t874 (wrap64 (a714 - 8)) (wrap64 ((wrap64 (a714 - 8)) + 1)) t1043 t1070 t1054 0 0, b11 g1175 2 (wrap64 ((wrap64 (a714 - 8)) + 1)), b11 g1180 2 t1095, b11 g1187 t1101 t1107]) (xs := [t1101, t1107]) HS.out 5 rfl (by simp)⟩ ⟨Gl.pass (l := []) (rest := [b7 g717 a713 a714 a715 a716, b10 g720 0 0 0 0 0 0 0 0, b10 g877 t874 (wrap64 (a714 - 8)) (wrap64 ((wrap64 (a714 - 8)) + 1)) t1043 t1070 t1054 0 0, b11 g1175 2 (wrap64 ((wrap64 (a714 - 8)) + 1)), b11 g1180 2 t1095, b11 g1187 t1101 t1107]) HGl0.out HS.out⟩ ⟨HS.out.begin (l := []) (rest := [b7 g717 a713 a714 a715 a716, b10 g720 0 0 0 0 0 0 0 0, b10 g877 t874 (wrap64 (a714 - 8)) (wrap64 ((wrap64 (a714 - 8)) + 1)) t1043 t1070 t1054 0 0, b11 g1175 2 (wrap64 ((wrap64 (a714 - 8)) + 1)), b11 g1180 2 t1095, b11 g1187 t1101 t1107])⟩ HA1114).mono ?_
          rintro e_ w1191 ⟨rfl, hS⟩
          replace HS : Aside0 (Sep (fps []) w [b7 g717 a713 a714 a715 a716, b10 g720 0 0 0 0 0 0 0 0, b10 g877 t874 (wrap64 (a714 - 8)) (wrap64 ((wrap64 (a714 - 8)) + 1)) t1043 t1070 t1054 0 0, b11 g1175 2 (wrap64 ((wrap64 (a714 - 8)) + 1)), b11 g1180 2 t1095, b11 g1187 t1101 t1107] w1191) := ⟨HS.out.call (l := []) (rest := [b7 g717 a713 a714 a715 a716, b10 g720 0 0 0 0 0 0 0 0, b10 g877 t874 (wrap64 (a714 - 8)) (wrap64 ((wrap64 (a714 - 8)) + 1)) t1043 t1070 t1054 0 0, b11 g1175 2 (wrap64 ((wrap64 (a714 - 8)) + 1)), b11 g1180 2 t1095, b11 g1187 t1101 t1107]) hS⟩
          clear hS
          refine ⟨_, rfl, ?_⟩
          refine hK.out _ _ (⟨blk_cellv (HS.out.at2) 4 rfl, blk_cellv (HS.out.at0) 3 rfl, blk_cellv (HS.out.at2) 2 rfl⟩) (fun hHeld => ?_)
          clear hK K
          refine norm_ (a' := ?_) ?_ ?_
          rotate_left
          · show Act.put _ (some 65) _ = _
            simp only [Act.put, List.setIfInBounds_toArray, List.set_cons_zero, List.set_cons_succ, i64_w, i32_w]
            rfl
          refine pure_ (i := 13) (N := some 66) (v := ?_) (a' := ?_) #[true, true, true, true, true, true, true, true, true, true, true, true, true, true, false] rfl rfl (by kernel_rfl) (fun _ _ _ h => h) (Or.inl ⟨by rfl, ?_⟩) ?_ ?_
          rotate_left
          · intro w'
            go_simp
            with_reducible rfl
          rotate_left
          · simp only [Act.put, List.setIfInBounds_toArray, List.set_cons_zero, List.set_cons_succ, i64_w, i32_w]
            rfl
          refine one_ (i := 14) (N := none) #[true, true, true, true, true, true, true, true, true, true, true, true, true, true, true] rfl rfl (by kernel_rfl) (by decide) (fun K hK => ?_)
          have hc1193 := blk_cellv (v := .int .i64 0) (HS.out.at2) 6 rfl
          have hz1194 := blk_fz (HS.out.at2) 6
          refine store_step (w1 := (World.setCell w1191 ⟨g877, 6, none⟩ (.int .i64 t1113))) (by rfl) rfl ?hr ?_
          case hr => first | (go_simp; done) | (go_simp; rfl)
          clear hc1193 hz1194
          intro w1192 hst
          have hq0 : Sep (fps []) w [b7 g717 a713 a714 a715 a716, b10 g720 0 0 0 0 0 0 0 0, b10 g877 t874 (wrap64 (a714 - 8)) (wrap64 ((wrap64 (a714 - 8)) + 1)) t1043 t1070 t1054 t1113 0, b11 g1175 2 (wrap64 ((wrap64 (a714 - 8)) + 1)), b11 g1180 2 t1095, b11 g1187 t1101 t1107] (World.setCell w1191 ⟨g877, 6, none⟩ (.int .i64 t1113)) := (HS.out).set1 (l1 := [b7 g717 a713 a714 a715 a716, b10 g720 0 0 0 0 0 0 0 0]) (l2 := [b11 g1175 2 (wrap64 ((wrap64 (a714 - 8)) + 1)), b11 g1180 2 t1095, b11 g1187 t1101 t1107]) 6 (.int .i64 t1113)
          have HS_ : Aside0 (Sep (fps []) w [b7 g717 a713 a714 a715 a716, b10 g720 0 0 0 0 0 0 0 0, b10 g877 t874 (wrap64 (a714 - 8)) (wrap64 ((wrap64 (a714 - 8)) + 1)) t1043 t1070 t1054 t1113 0, b11 g1175 2 (wrap64 ((wrap64 (a714 - 8)) + 1)), b11 g1180 2 t1095, b11 g1187 t1101 t1107] w1192) := ⟨by rw [hst]; exact hq0⟩
          clear hq0
          clear HS hst
          have HS := HS_
          clear HS_
          refine hK.out _ _ (⟨blk_cellv (HS.out.at2) 4 rfl, blk_cellv (HS.out.at0) 3 rfl, blk_cellv (HS.out.at2) 2 rfl⟩) (fun hHeld => ?_)
          clear hK K
          refine done_ (by kernel_rfl) ?_
          go_wp2_with fail
          go_meet
          case rel => exact ⟨g1180, g1175, g1187, ⟨((((((HS.out).front 5 (by simp)).front 4 (by simp)).front 5 (by simp)).front 5 (by simp)).front 5 (by simp)).front 5 (by simp)⟩⟩
      case rest =>
        clear HS
        obtain ⟨g1098, g1104, g1110, HS⟩ := hcut
        obtain ⟨w1119, rfl⟩ : ∃ x : World, x = wc := ⟨_, rfl⟩
        replace HS : Aside0 (Sep (fps []) w [b7 g717 a713 a714 a715 a716, b10 g720 0 0 0 0 0 0 0 0, b10 g877 t874 (wrap64 (a714 - 8)) (wrap64 ((wrap64 (a714 - 8)) + 1)) t1043 t1070 t1054 t1113 0] w1119) := ⟨HS.out.sub (.cons_cons _ (.cons_cons _ (.cons_cons _ (.cons _ (.cons _ (.cons _ .slnil))))))⟩
        go_wp2_with fail
        refine start_ (n := 15) (S := (fun w' => w'.cell? ⟨g877, 4, none⟩ = some (.int .i64 t1070) ∧ w'.cell? ⟨g877, 5, none⟩ = some (.int .i64 t1054) ∧ w'.cell? ⟨g717, 3, none⟩ = some (.int .i64 a716))) (ds := []) #[false, false, false, false, false, false, false, false, false, false, false, false, false, false, false] (by kernel_rfl) rfl rfl (⟨blk_cellv ((HS.out.drew).at2) 4 rfl, blk_cellv ((HS.out.drew).at2) 5 rfl, blk_cellv ((HS.out.drew).at0) 3 rfl⟩) (fun hHeld => ?_)
        have HS_ := Aside0.mk HS.out.drew
        clear HS
        generalize World.drew _ = w1196 at HS_ hHeld ⊢
        have HS := HS_
        clear HS_
        refine pure_ (i := 0) (N := some 67) (v := ?_) (a' := ?_) #[true, false, false, false, false, false, false, false, false, false, false, false, false, false, false] rfl rfl (by kernel_rfl) (fun _ _ _ h => h) (Or.inl ⟨by rfl, ?_⟩) ?_ ?_
        rotate_left
        · intro w'
          go_simp
          with_reducible rfl
        rotate_left
        · simp only [Act.put, List.setIfInBounds_toArray, List.set_cons_zero, List.set_cons_succ, i64_w, i32_w]
          rfl
        refine pure_ (i := 2) (N := some 69) (v := ?_) (a' := ?_) #[true, false, true, false, false, false, false, false, false, false, false, false, false, false, false] rfl rfl (by kernel_rfl) (fun _ _ _ h => h) (Or.inl ⟨by rfl, ?_⟩) ?_ ?_
        rotate_left
        · intro w'
          go_simp
          with_reducible rfl
        rotate_left
        · simp only [Act.put, List.setIfInBounds_toArray, List.set_cons_zero, List.set_cons_succ, i64_w, i32_w]
          rfl
        refine pure_ (i := 4) (N := some 71) (v := ?_) (a' := ?_) #[true, false, true, false, true, false, false, false, false, false, false, false, false, false, false] rfl rfl (by kernel_rfl) (fun _ _ _ h => h) (Or.inl ⟨by rfl, ?_⟩) ?_ ?_
        rotate_left
        · intro w'
          go_simp
          with_reducible rfl
        rotate_left
        · simp only [Act.put, List.setIfInBounds_toArray, List.set_cons_zero, List.set_cons_succ, i64_w, i32_w]
          rfl
        refine pure_ (i := 8) (N := some 75) (v := ?_) (a' := ?_) #[true, false, true, false, true, false, false, false, true, false, false, false, false, false, false] rfl rfl (by kernel_rfl) (fun _ _ _ h => h) (Or.inl ⟨by rfl, ?_⟩) ?_ ?_
        rotate_left
        · intro w'
          go_simp
          with_reducible rfl
        rotate_left
        · simp only [Act.put, List.setIfInBounds_toArray, List.set_cons_zero, List.set_cons_succ, i64_w, i32_w]
          rfl
        refine take_ (i := 1) (N := some 68) (v := ?_) (a' := ?_) #[true, true, true, false, true, false, false, false, true, false, false, false, false, false, false] rfl rfl (by kernel_rfl) (fun _ _ _ h => h) (Or.inl ⟨by rfl, ?_⟩) hHeld ?_ ?_
        rotate_left
        · rintro w' hS'
          obtain ⟨s0, s1, s2⟩ := hS'
          go_simp
          with_reducible rfl
        rotate_left
        · simp only [Act.put, List.setIfInBounds_toArray, List.set_cons_zero, List.set_cons_succ, i64_w, i32_w]
          rfl
        refine take_ (i := 3) (N := some 70) (v := ?_) (a' := ?_) #[true, true, true, true, true, false, false, false, true, false, false, false, false, false, false] rfl rfl (by kernel_rfl) (fun _ _ _ h => h) (Or.inl ⟨by rfl, ?_⟩) hHeld ?_ ?_
        rotate_left
        · rintro w' hS'
          obtain ⟨s0, s1, s2⟩ := hS'
          go_simp
          with_reducible rfl
        rotate_left
        · simp only [Act.put, List.setIfInBounds_toArray, List.set_cons_zero, List.set_cons_succ, i64_w, i32_w]
          rfl
        refine take_ (i := 5) (N := some 72) (v := ?_) (a' := ?_) #[true, true, true, true, true, true, false, false, true, false, false, false, false, false, false] rfl rfl (by kernel_rfl) (fun _ _ _ h => h) (Or.inl ⟨by rfl, ?_⟩) hHeld ?_ ?_
        rotate_left
        · rintro w' hS'
          obtain ⟨s0, s1, s2⟩ := hS'
          go_simp
          with_reducible rfl
        rotate_left
        · simp only [Act.put, List.setIfInBounds_toArray, List.set_cons_zero, List.set_cons_succ, i64_w, i32_w]
          rfl
        refine take_ (i := 9) (N := some 76) (v := ?_) (a' := ?_) #[true, true, true, true, true, true, false, false, true, true, false, false, false, false, false] rfl rfl (by kernel_rfl) (fun _ _ _ h => h) (Or.inl ⟨by rfl, ?_⟩) hHeld ?_ ?_
        rotate_left
        · rintro w' hS'
          obtain ⟨s0, s1, s2⟩ := hS'
          go_simp
          with_reducible rfl
        rotate_left
        · simp only [Act.put, List.setIfInBounds_toArray, List.set_cons_zero, List.set_cons_succ, i64_w, i32_w]
          rfl
        refine one_ (i := 6) (N := some 73) #[true, true, true, true, true, true, true, false, true, true, false, false, false, false, false] rfl rfl (by kernel_rfl) (by decide) (fun K hK => ?_)
        refine slice_step (n := 3) (by rfl) (N := 73) rfl (cs := #[.int .i64 t1070, .int .i64 t1070, .int .i64 t1054]) (t := 3) ?hr ?_
        case hr => first | (go_simp; done) | (go_simp; rfl)
        intro g1197 hg w1198 hbox hb
        replace HS : Aside0 (Sep (fps []) w [b7 g717 a713 a714 a715 a716, b10 g720 0 0 0 0 0 0 0 0, b10 g877 t874 (wrap64 (a714 - 8)) (wrap64 ((wrap64 (a714 - 8)) + 1)) t1043 t1070 t1054 t1113 0, b12 g1197 t1070 t1070 t1054] w1198) := ⟨HS.out.box hg hbox hb⟩
        clear hg hbox hb
        refine hK.out _ _ (⟨blk_cellv (HS.out.at2) 4 rfl, blk_cellv (HS.out.at2) 5 rfl, blk_cellv (HS.out.at0) 3 rfl⟩) (fun hHeld => ?_)
        clear hK K
        refine norm_ (a' := ?_) ?_ ?_
        rotate_left
        · show Act.put _ (some 73) _ = _
          simp only [Act.put, List.setIfInBounds_toArray, List.set_cons_zero, List.set_cons_succ, i64_w, i32_w]
          rfl
        refine one_ (i := 7) (N := some 74) #[true, true, true, true, true, true, true, true, true, true, false, false, false, false, false] rfl rfl (by kernel_rfl) (by decide) (fun K hK => ?_)
        obtain ⟨t1200, HA1201, H⟩ := bind_some H
        refine goes_ Tryd.func122 (by kernel_rfl) rfl #[.slice (some ⟨g1197, 0, none⟩) 3 3] (by rfl) rfl rfl (by (try simp only [List.map_toArray, List.map_cons, List.map_nil]); first | done | rfl) ?_
        refine (ratio_Add.calls _ [t1070, t1070, t1054] (some ⟨g1197, 0, none⟩) 3 t1200 _ ⟨Rd.lit (l := []) (rest := [b7 g717 a713 a714 a715 a716, b10 g720 0 0 0 0 0 0 0 0, b10 g877 t874 (wrap64 (a714 - 8)) (wrap64 ((wrap64 (a714 - 8)) + 1)) t1043 t1070 t1054 t1113 0, b12 g1197 t1070 t1070 t1054]) (xs := [t1070, t1070, t1054]) HS.out 3 rfl (by simp)⟩ ⟨Gl.pass (l := []) (rest := [b7 g717 a713 a714 a715 a716, b10 g720 0 0 0 0 0 0 0 0, b10 g877 t874 (wrap64 (a714 - 8)) (wrap64 ((wrap64 (a714 - 8)) + 1)) t1043 t1070 t1054 t1113 0, b12 g1197 t1070 t1070 t1054]) HGl0.out HS.out⟩ ⟨HS.out.begin (l := []) (rest := [b7 g717 a713 a714 a715 a716, b10 g720 0 0 0 0 0 0 0 0, b10 g877 t874 (wrap64 (a714 - 8)) (wrap64 ((wrap64 (a714 - 8)) + 1)) t1043 t1070 t1054 t1113 0, b12 g1197 t1070 t1070 t1054])⟩ HA1201).mono ?_
        rintro e_ w1202 ⟨rfl, hS⟩
        replace HS : Aside0 (Sep (fps []) w [b7 g717 a713 a714 a715 a716, b10 g720 0 0 0 0 0 0 0 0, b10 g877 t874 (wrap64 (a714 - 8)) (wrap64 ((wrap64 (a714 - 8)) + 1)) t1043 t1070 t1054 t1113 0, b12 g1197 t1070 t1070 t1054] w1202) := ⟨HS.out.call (l := []) (rest := [b7 g717 a713 a714 a715 a716, b10 g720 0 0 0 0 0 0 0 0, b10 g877 t874 (wrap64 (a714 - 8)) (wrap64 ((wrap64 (a714 - 8)) + 1)) t1043 t1070 t1054 t1113 0, b12 g1197 t1070 t1070 t1054]) hS⟩
        clear hS
        refine ⟨_, rfl, ?_⟩
        refine hK.out _ _ (⟨blk_cellv (HS.out.at2) 4 rfl, blk_cellv (HS.out.at2) 5 rfl, blk_cellv (HS.out.at0) 3 rfl⟩) (fun hHeld => ?_)
        clear hK K
        refine norm_ (a' := ?_) ?_ ?_
        rotate_left
        · show Act.put _ (some 74) _ = _
          simp only [Act.put, List.setIfInBounds_toArray, List.set_cons_zero, List.set_cons_succ, i64_w, i32_w]
          rfl
        refine one_ (i := 10) (N := some 77) #[true, true, true, true, true, true, true, true, true, true, true, false, false, false, false] rfl rfl (by kernel_rfl) (by decide) (fun K hK => ?_)
        obtain ⟨t1203, HA1204, H⟩ := bind_some H
        refine goes_ Tryd.func124 (by kernel_rfl) rfl #[.int .i64 t1200, .int .i64 a716] (by rfl) rfl rfl (by (try simp only [List.map_toArray, List.map_cons, List.map_nil]); first | done | rfl) ?_
        refine (ratio_Up.calls t1200 a716 t1203 _ ⟨Gl.pass (l := []) (rest := [b7 g717 a713 a714 a715 a716, b10 g720 0 0 0 0 0 0 0 0, b10 g877 t874 (wrap64 (a714 - 8)) (wrap64 ((wrap64 (a714 - 8)) + 1)) t1043 t1070 t1054 t1113 0, b12 g1197 t1070 t1070 t1054]) HGl0.out HS.out⟩ ⟨HS.out.begin (l := []) (rest := [b7 g717 a713 a714 a715 a716, b10 g720 0 0 0 0 0 0 0 0, b10 g877 t874 (wrap64 (a714 - 8)) (wrap64 ((wrap64 (a714 - 8)) + 1)) t1043 t1070 t1054 t1113 0, b12 g1197 t1070 t1070 t1054])⟩ HA1204).mono ?_
        rintro e_ w1205 ⟨rfl, hS⟩
        replace HS : Aside0 (Sep (fps []) w [b7 g717 a713 a714 a715 a716, b10 g720 0 0 0 0 0 0 0 0, b10 g877 t874 (wrap64 (a714 - 8)) (wrap64 ((wrap64 (a714 - 8)) + 1)) t1043 t1070 t1054 t1113 0, b12 g1197 t1070 t1070 t1054] w1205) := ⟨HS.out.call (l := []) (rest := [b7 g717 a713 a714 a715 a716, b10 g720 0 0 0 0 0 0 0 0, b10 g877 t874 (wrap64 (a714 - 8)) (wrap64 ((wrap64 (a714 - 8)) + 1)) t1043 t1070 t1054 t1113 0, b12 g1197 t1070 t1070 t1054]) hS⟩
        clear hS
        refine ⟨_, rfl, ?_⟩
        refine hK.out _ _ (⟨blk_cellv (HS.out.at2) 4 rfl, blk_cellv (HS.out.at2) 5 rfl, blk_cellv (HS.out.at0) 3 rfl⟩) (fun hHeld => ?_)
        clear hK K
        refine norm_ (a' := ?_) ?_ ?_
        rotate_left
        · show Act.put _ (some 77) _ = _
          simp only [Act.put, List.setIfInBounds_toArray, List.set_cons_zero, List.set_cons_succ, i64_w, i32_w]
          rfl
        refine one_ (i := 11) (N := some 78) #[true, true, true, true, true, true, true, true, true, true, true, true, false, false, false] rfl rfl (by kernel_rfl) (by decide) (fun K hK => ?_)
        refine slice_step (n := 2) (by rfl) (N := 78) rfl (cs := #[.int .i64 t1203, .int .i64 2]) (t := 3) ?hr ?_
        case hr => first | (go_simp; done) | (go_simp; rfl)
        intro g1206 hg w1207 hbox hb
        replace HS : Aside0 (Sep (fps []) w [b7 g717 a713 a714 a715 a716, b10 g720 0 0 0 0 0 0 0 0, b10 g877 t874 (wrap64 (a714 - 8)) (wrap64 ((wrap64 (a714 - 8)) + 1)) t1043 t1070 t1054 t1113 0, b12 g1197 t1070 t1070 t1054, b11 g1206 t1203 2] w1207) := ⟨HS.out.box hg hbox hb⟩
        clear hg hbox hb
        refine hK.out _ _ (⟨blk_cellv (HS.out.at2) 4 rfl, blk_cellv (HS.out.at2) 5 rfl, blk_cellv (HS.out.at0) 3 rfl⟩) (fun hHeld => ?_)
        clear hK K
        refine norm_ (a' := ?_) ?_ ?_
        rotate_left
        · show Act.put _ (some 78) _ = _
          simp only [Act.put, List.setIfInBounds_toArray, List.set_cons_zero, List.set_cons_succ, i64_w, i32_w]
          rfl
        refine one_ (i := 12) (N := some 79) #[true, true, true, true, true, true, true, true, true, true, true, true, true, false, false] rfl rfl (by kernel_rfl) (by decide) (fun K hK => ?_)
        obtain ⟨t1209, HA1210, H⟩ := bind_some H
        refine goes_ Tryd.func122 (by kernel_rfl) rfl #[.slice (some ⟨g1206, 0, none⟩) 2 2] (by rfl) rfl rfl (by (try simp only [List.map_toArray, List.map_cons, List.map_nil]); first | done | rfl) ?_
        refine (ratio_Add.calls _ [t1203, 2] (some ⟨g1206, 0, none⟩) 2 t1209 _ ⟨Rd.lit (l := []) (rest := [b7 g717 a713 a714 a715 a716, b10 g720 0 0 0 0 0 0 0 0, b10 g877 t874 (wrap64 (a714 - 8)) (wrap64 ((wrap64 (a714 - 8)) + 1)) t1043 t1070 t1054 t1113 0, b12 g1197 t1070 t1070 t1054, b11 g1206 t1203 2]) (xs := [t1203, 2]) HS.out 4 rfl (by simp)⟩ ⟨Gl.pass (l := []) (rest := [b7 g717 a713 a714 a715 a716, b10 g720 0 0 0 0 0 0 0 0, b10 g877 t874 (wrap64 (a714 - 8)) (wrap64 ((wrap64 (a714 - 8)) + 1)) t1043 t1070 t1054 t1113 0, b12 g1197 t1070 t1070 t1054, b11 g1206 t1203 2]) HGl0.out HS.out⟩ ⟨HS.out.begin (l := []) (rest := [b7 g717 a713 a714 a715 a716, b10 g720 0 0 0 0 0 0 0 0, b10 g877 t874 (wrap64 (a714 - 8)) (wrap64 ((wrap64 (a714 - 8)) + 1)) t1043 t1070 t1054 t1113 0, b12 g1197 t1070 t1070 t1054, b11 g1206 t1203 2])⟩ HA1210).mono ?_
        rintro e_ w1211 ⟨rfl, hS⟩
        replace HS : Aside0 (Sep (fps []) w [b7 g717 a713 a714 a715 a716, b10 g720 0 0 0 0 0 0 0 0, b10 g877 t874 (wrap64 (a714 - 8)) (wrap64 ((wrap64 (a714 - 8)) + 1)) t1043 t1070 t1054 t1113 0, b12 g1197 t1070 t1070 t1054, b11 g1206 t1203 2] w1211) := ⟨HS.out.call (l := []) (rest := [b7 g717 a713 a714 a715 a716, b10 g720 0 0 0 0 0 0 0 0, b10 g877 t874 (wrap64 (a714 - 8)) (wrap64 ((wrap64 (a714 - 8)) + 1)) t1043 t1070 t1054 t1113 0, b12 g1197 t1070 t1070 t1054, b11 g1206 t1203 2]) hS⟩
        clear hS
        refine ⟨_, rfl, ?_⟩
        refine hK.out _ _ (⟨blk_cellv (HS.out.at2) 4 rfl, blk_cellv (HS.out.at2) 5 rfl, blk_cellv (HS.out.at0) 3 rfl⟩) (fun hHeld => ?_)
        clear hK K
        refine norm_ (a' := ?_) ?_ ?_
        rotate_left
        · show Act.put _ (some 79) _ = _
          simp only [Act.put, List.setIfInBounds_toArray, List.set_cons_zero, List.set_cons_succ, i64_w, i32_w]
          rfl
        refine pure_ (i := 13) (N := some 80) (v := ?_) (a' := ?_) #[true, true, true, true, true, true, true, true, true, true, true, true, true, true, false] rfl rfl (by kernel_rfl) (fun _ _ _ h => h) (Or.inl ⟨by rfl, ?_⟩) ?_ ?_
        rotate_left
        · intro w'
          go_simp
          with_reducible rfl
        rotate_left
        · simp only [Act.put, List.setIfInBounds_toArray, List.set_cons_zero, List.set_cons_succ, i64_w, i32_w]
          rfl
        refine one_ (i := 14) (N := none) #[true, true, true, true, true, true, true, true, true, true, true, true, true, true, true] rfl rfl (by kernel_rfl) (by decide) (fun K hK => ?_)
        have hc1213 := blk_cellv (v := .int .i64 0) (HS.out.at2) 7 rfl
        have hz1214 := blk_fz (HS.out.at2) 7
        refine store_step (w1 := (World.setCell w1211 ⟨g877, 7, none⟩ (.int .i64 t1209))) (by rfl) rfl ?hr ?_
        case hr => first | (go_simp; done) | (go_simp; rfl)
        clear hc1213 hz1214
        intro w1212 hst
        have hq0 : Sep (fps []) w [b7 g717 a713 a714 a715 a716, b10 g720 0 0 0 0 0 0 0 0, b10 g877 t874 (wrap64 (a714 - 8)) (wrap64 ((wrap64 (a714 - 8)) + 1)) t1043 t1070 t1054 t1113 t1209, b12 g1197 t1070 t1070 t1054, b11 g1206 t1203 2] (World.setCell w1211 ⟨g877, 7, none⟩ (.int .i64 t1209)) := (HS.out).set1 (l1 := [b7 g717 a713 a714 a715 a716, b10 g720 0 0 0 0 0 0 0 0]) (l2 := [b12 g1197 t1070 t1070 t1054, b11 g1206 t1203 2]) 7 (.int .i64 t1209)
        have HS_ : Aside0 (Sep (fps []) w [b7 g717 a713 a714 a715 a716, b10 g720 0 0 0 0 0 0 0 0, b10 g877 t874 (wrap64 (a714 - 8)) (wrap64 ((wrap64 (a714 - 8)) + 1)) t1043 t1070 t1054 t1113 t1209, b12 g1197 t1070 t1070 t1054, b11 g1206 t1203 2] w1212) := ⟨by rw [hst]; exact hq0⟩
        clear hq0
        clear HS hst
        have HS := HS_
        clear HS_
        refine hK.out _ _ (⟨blk_cellv (HS.out.at2) 4 rfl, blk_cellv (HS.out.at2) 5 rfl, blk_cellv (HS.out.at0) 3 rfl⟩) (fun hHeld => ?_)
        clear hK K
        refine done_ (by kernel_rfl) ?_
        replace HS : Aside0 (Sep (fps []) w [b10 g720 0 0 0 0 0 0 0 0, b10 g877 t874 (wrap64 (a714 - 8)) (wrap64 ((wrap64 (a714 - 8)) + 1)) t1043 t1070 t1054 t1113 t1209] w1212) := ⟨HS.out.sub (.cons _ (.cons_cons _ (.cons_cons _ (.cons _ (.cons _ .slnil)))))⟩
        have hc1215 : w1212.cell? ⟨g877, 0, none⟩ = some (.int .i64 t874) := blk_cellv (HS.out.at1) 0 rfl
        have hc1216 : w1212.cell? ⟨g877, 1, none⟩ = some (.int .i64 (wrap64 (a714 - 8))) := blk_cellv (HS.out.at1) 1 rfl
        have hc1217 : w1212.cell? ⟨g877, 2, none⟩ = some (.int .i64 (wrap64 ((wrap64 (a714 - 8)) + 1))) := blk_cellv (HS.out.at1) 2 rfl
        have hc1218 : w1212.cell? ⟨g877, 3, none⟩ = some (.int .i64 t1043) := blk_cellv (HS.out.at1) 3 rfl
        have hc1219 : w1212.cell? ⟨g877, 4, none⟩ = some (.int .i64 t1070) := blk_cellv (HS.out.at1) 4 rfl
        have hc1220 : w1212.cell? ⟨g877, 5, none⟩ = some (.int .i64 t1054) := blk_cellv (HS.out.at1) 5 rfl
        have hc1221 : w1212.cell? ⟨g877, 6, none⟩ = some (.int .i64 t1113) := blk_cellv (HS.out.at1) 6 rfl
        have hc1222 : w1212.cell? ⟨g877, 7, none⟩ = some (.int .i64 t1209) := blk_cellv (HS.out.at1) 7 rfl
        have hc1223 : w1212.cell? ⟨g720, 0, none⟩ = some (.int .i64 0) := blk_cellv (HS.out.at0) 0 rfl
        have hz1224 : w1212.frozen? ⟨g720, 0, none⟩ = false := blk_fz (HS.out.at0) 0
        have hc1225 : w1212.cell? ⟨g720, 1, none⟩ = some (.int .i64 0) := blk_cellv (HS.out.at0) 1 rfl
        have hz1226 : w1212.frozen? ⟨g720, 1, none⟩ = false := blk_fz (HS.out.at0) 1
        have hc1227 : w1212.cell? ⟨g720, 2, none⟩ = some (.int .i64 0) := blk_cellv (HS.out.at0) 2 rfl
        have hz1228 : w1212.frozen? ⟨g720, 2, none⟩ = false := blk_fz (HS.out.at0) 2
        have hc1229 : w1212.cell? ⟨g720, 3, none⟩ = some (.int .i64 0) := blk_cellv (HS.out.at0) 3 rfl
        have hz1230 : w1212.frozen? ⟨g720, 3, none⟩ = false := blk_fz (HS.out.at0) 3
        have hc1231 : w1212.cell? ⟨g720, 4, none⟩ = some (.int .i64 0) := blk_cellv (HS.out.at0) 4 rfl
        have hz1232 : w1212.frozen? ⟨g720, 4, none⟩ = false := blk_fz (HS.out.at0) 4
        have hc1233 : w1212.cell? ⟨g720, 5, none⟩ = some (.int .i64 0) := blk_cellv (HS.out.at0) 5 rfl
        have hz1234 : w1212.frozen? ⟨g720, 5, none⟩ = false := blk_fz (HS.out.at0) 5
        have hc1235 : w1212.cell? ⟨g720, 6, none⟩ = some (.int .i64 0) := blk_cellv (HS.out.at0) 6 rfl
        have hz1236 : w1212.frozen? ⟨g720, 6, none⟩ = false := blk_fz (HS.out.at0) 6
        have hc1237 : w1212.cell? ⟨g720, 7, none⟩ = some (.int .i64 0) := blk_cellv (HS.out.at0) 7 rfl
        have hz1238 : w1212.frozen? ⟨g720, 7, none⟩ = false := blk_fz (HS.out.at0) 7
        go_wp2_with (first | ((with_reducible refine gate_store (t := 97) (p := 2) rfl ?_); refine store_event (w1 := (World.setCell (World.setCell (World.setCell (World.setCell (World.setCell (World.setCell (World.setCell (World.setCell w1212 ⟨g720, 0, none⟩ (.int .i64 t874)) ⟨g720, 1, none⟩ (.int .i64 (wrap64 (a714 - 8)))) ⟨g720, 2, none⟩ (.int .i64 (wrap64 ((wrap64 (a714 - 8)) + 1)))) ⟨g720, 3, none⟩ (.int .i64 t1043)) ⟨g720, 4, none⟩ (.int .i64 t1070)) ⟨g720, 5, none⟩ (.int .i64 t1054)) ⟨g720, 6, none⟩ (.int .i64 t1113)) ⟨g720, 7, none⟩ (.int .i64 t1209))) rfl (t := 97) (p := 2) rfl rfl ?hr ?_; (case hr => first | (go_simp; done) | (go_simp; rfl)); intro w1239 hst; clear hc1215 hc1216 hc1217 hc1218 hc1219 hc1220 hc1221 hc1222 hc1223 hz1224 hc1225 hz1226 hc1227 hz1228 hc1229 hz1230 hc1231 hz1232 hc1233 hz1234 hc1235 hz1236 hc1237 hz1238; replace HS : Aside0 (Sep (fps []) w [b10 g720 t874 (wrap64 (a714 - 8)) (wrap64 ((wrap64 (a714 - 8)) + 1)) t1043 t1070 t1054 t1113 t1209, b10 g877 t874 (wrap64 (a714 - 8)) (wrap64 ((wrap64 (a714 - 8)) + 1)) t1043 t1070 t1054 t1113 t1209] w1239) := ⟨by rw [hst]; exact HS.out.setAll (l1 := []) (l2 := [b10 g877 t874 (wrap64 (a714 - 8)) (wrap64 ((wrap64 (a714 - 8)) + 1)) t1043 t1070 t1054 t1113 t1209]) [.int .i64 t874, .int .i64 (wrap64 (a714 - 8)), .int .i64 (wrap64 ((wrap64 (a714 - 8)) + 1)), .int .i64 t1043, .int .i64 t1070, .int .i64 t1054, .int .i64 t1113, .int .i64 t1209] rfl⟩; clear hst; replace HS : Aside0 (Sep (fps []) w [b10 g720 t874 (wrap64 (a714 - 8)) (wrap64 ((wrap64 (a714 - 8)) + 1)) t1043 t1070 t1054 t1113 t1209] w1239) := ⟨HS.out.sub (.cons_cons _ (.cons _ .slnil))⟩))
        have hc1240 : w1239.cell? ⟨g720, 0, none⟩ = some (.int .i64 t874) := blk_cellv (HS.out.at0) 0 rfl
        have hc1241 : w1239.cell? ⟨g720, 1, none⟩ = some (.int .i64 (wrap64 (a714 - 8))) := blk_cellv (HS.out.at0) 1 rfl
        have hc1242 : w1239.cell? ⟨g720, 2, none⟩ = some (.int .i64 (wrap64 ((wrap64 (a714 - 8)) + 1))) := blk_cellv (HS.out.at0) 2 rfl
        have hc1243 : w1239.cell? ⟨g720, 3, none⟩ = some (.int .i64 t1043) := blk_cellv (HS.out.at0) 3 rfl
        have hc1244 : w1239.cell? ⟨g720, 4, none⟩ = some (.int .i64 t1070) := blk_cellv (HS.out.at0) 4 rfl
        have hc1245 : w1239.cell? ⟨g720, 5, none⟩ = some (.int .i64 t1054) := blk_cellv (HS.out.at0) 5 rfl
        have hc1246 : w1239.cell? ⟨g720, 6, none⟩ = some (.int .i64 t1113) := blk_cellv (HS.out.at0) 6 rfl
        have hc1247 : w1239.cell? ⟨g720, 7, none⟩ = some (.int .i64 t1209) := blk_cellv (HS.out.at0) 7 rfl
        refine bodyPost_ret (v := .tuple #[.agg #[.int .i64 t874, .int .i64 (wrap64 (a714 - 8)), .int .i64 (wrap64 ((wrap64 (a714 - 8)) + 1)), .int .i64 t1043, .int .i64 t1070, .int .i64 t1054, .int .i64 t1113, .int .i64 t1209], .int .i64 0]) (by simp [results, Tryd.results65, go_sem, hc1240, hc1241, hc1242, hc1243, hc1244, hc1245, hc1246, hc1247]) rfl ?_
        rw [← some_eq H]
        exact ⟨(by first | rfl | (simp [IntKind.wrap_u32]; done)), (HS.out).keep (l := []) (rest := [b10 g720 t874 (wrap64 (a714 - 8)) (wrap64 ((wrap64 (a714 - 8)) + 1)) t1043 t1070 t1054 t1113 t1209])⟩
  · have H := if_no c771 H
    have c771b0 : (t768 == 0) = false := beq_eq_false_iff_ne.mpr c771
    have c771b1 : (t768 != 0) = true := bne_iff_ne.mpr c771
    clear c771
    have hc1248 : w770.cell? ⟨g720, 0, none⟩ = some (.int .i64 0) := blk_cellv (HS.out.at1) 0 rfl
    have hz1249 : w770.frozen? ⟨g720, 0, none⟩ = false := blk_fz (HS.out.at1) 0
    have hc1250 : w770.cell? ⟨g720, 1, none⟩ = some (.int .i64 0) := blk_cellv (HS.out.at1) 1 rfl
    have hz1251 : w770.frozen? ⟨g720, 1, none⟩ = false := blk_fz (HS.out.at1) 1
    have hc1252 : w770.cell? ⟨g720, 2, none⟩ = some (.int .i64 0) := blk_cellv (HS.out.at1) 2 rfl
    have hz1253 : w770.frozen? ⟨g720, 2, none⟩ = false := blk_fz (HS.out.at1) 2
    have hc1254 : w770.cell? ⟨g720, 3, none⟩ = some (.int .i64 0) := blk_cellv (HS.out.at1) 3 rfl
    have hz1255 : w770.frozen? ⟨g720, 3, none⟩ = false := blk_fz (HS.out.at1) 3
    have hc1256 : w770.cell? ⟨g720, 4, none⟩ = some (.int .i64 0) := blk_cellv (HS.out.at1) 4 rfl
    have hz1257 : w770.frozen? ⟨g720, 4, none⟩ = false := blk_fz (HS.out.at1) 4
    have hc1258 : w770.cell? ⟨g720, 5, none⟩ = some (.int .i64 0) := blk_cellv (HS.out.at1) 5 rfl
    have hz1259 : w770.frozen? ⟨g720, 5, none⟩ = false := blk_fz (HS.out.at1) 5
    have hc1260 : w770.cell? ⟨g720, 6, none⟩ = some (.int .i64 0) := blk_cellv (HS.out.at1) 6 rfl
    have hz1261 : w770.frozen? ⟨g720, 6, none⟩ = false := blk_fz (HS.out.at1) 6
    have hc1262 : w770.cell? ⟨g720, 7, none⟩ = some (.int .i64 0) := blk_cellv (HS.out.at1) 7 rfl
    have hz1263 : w770.frozen? ⟨g720, 7, none⟩ = false := blk_fz (HS.out.at1) 7
    go_wp2_with (first | ((with_reducible refine gate_store (t := 97) (p := 2) rfl ?_); refine store_event (w1 := (World.setCell (World.setCell (World.setCell (World.setCell (World.setCell (World.setCell (World.setCell (World.setCell w770 ⟨g720, 0, none⟩ (.int .i64 0)) ⟨g720, 1, none⟩ (.int .i64 0)) ⟨g720, 2, none⟩ (.int .i64 0)) ⟨g720, 3, none⟩ (.int .i64 0)) ⟨g720, 4, none⟩ (.int .i64 0)) ⟨g720, 5, none⟩ (.int .i64 0)) ⟨g720, 6, none⟩ (.int .i64 0)) ⟨g720, 7, none⟩ (.int .i64 0))) rfl (t := 97) (p := 2) rfl rfl ?hr ?_; (case hr => first | (go_simp; done) | (go_simp; rfl)); intro w1264 hst; clear hc1248 hz1249 hc1250 hz1251 hc1252 hz1253 hc1254 hz1255 hc1256 hz1257 hc1258 hz1259 hc1260 hz1261 hc1262 hz1263; replace HS : Aside0 (Sep (fps []) w [b7 g717 a713 a714 a715 a716, b10 g720 0 0 0 0 0 0 0 0] w1264) := ⟨by rw [hst]; exact HS.out.setAll (l1 := [b7 g717 a713 a714 a715 a716]) (l2 := []) [.int .i64 0, .int .i64 0, .int .i64 0, .int .i64 0, .int .i64 0, .int .i64 0, .int .i64 0, .int .i64 0] rfl⟩; clear hst; replace HS : Aside0 (Sep (fps []) w [b10 g720 0 0 0 0 0 0 0 0] w1264) := ⟨HS.out.sub (.cons _ (.cons_cons _ .slnil))⟩))
    have hc1265 : w1264.cell? ⟨g720, 0, none⟩ = some (.int .i64 0) := blk_cellv (HS.out.at0) 0 rfl
    have hc1266 : w1264.cell? ⟨g720, 1, none⟩ = some (.int .i64 0) := blk_cellv (HS.out.at0) 1 rfl
    have hc1267 : w1264.cell? ⟨g720, 2, none⟩ = some (.int .i64 0) := blk_cellv (HS.out.at0) 2 rfl
    have hc1268 : w1264.cell? ⟨g720, 3, none⟩ = some (.int .i64 0) := blk_cellv (HS.out.at0) 3 rfl
    have hc1269 : w1264.cell? ⟨g720, 4, none⟩ = some (.int .i64 0) := blk_cellv (HS.out.at0) 4 rfl
    have hc1270 : w1264.cell? ⟨g720, 5, none⟩ = some (.int .i64 0) := blk_cellv (HS.out.at0) 5 rfl
    have hc1271 : w1264.cell? ⟨g720, 6, none⟩ = some (.int .i64 0) := blk_cellv (HS.out.at0) 6 rfl
    have hc1272 : w1264.cell? ⟨g720, 7, none⟩ = some (.int .i64 0) := blk_cellv (HS.out.at0) 7 rfl
    refine bodyPost_ret (v := .tuple #[.agg #[.int .i64 0, .int .i64 0, .int .i64 0, .int .i64 0, .int .i64 0, .int .i64 0, .int .i64 0, .int .i64 0], .int .i64 t768]) (by simp [results, Tryd.results65, go_sem, hc1265, hc1266, hc1267, hc1268, hc1269, hc1270, hc1271, hc1272]) rfl ?_
    rw [← some_eq H]
    exact ⟨(by first | rfl | (simp [IntKind.wrap_u32]; done)), (HS.out).keep (l := []) (rest := [b10 g720 0 0 0 0 0 0 0 0])⟩

set_option maxHeartbeats 30000000 in
set_option maxRecDepth 100000 in
theorem store_New.calls (a1298 : Int) (r : Unit ⊕ (List Int)) (w : World)  (HGl0 : Aside0 (Gl 0 #[.int .i64 0, .int .i64 0, .int .i64 0, .int .i64 0, .int .i64 0] (fps []) w)) (HS : Aside0 (Sep (fps []) w [] w)) (H : Aside0 (store_New.f a1298 = some r)) :
    Calls Tryd.prog 66 #[.int .i64 a1298] w fun e w' => Sum.elim (fun (r : Unit) => e = .returned (.tuple #[.pointer none, .int .i64 2]) ∧ Sep (fps []) w [] w') (fun (r : List Int) => ∃ (g1334 : Nat), e = .returned (.tuple #[.pointer (some ⟨g1334, 0, none⟩), .int .i64 0]) ∧ ∃ (A1335 : Option Addr) (m1336 : Nat) (n1337 : Nat), Sep (fps []) w [b13 g1334 A1335 m1336 n1337 0, r4 A1335 m1336 n1337 r] w') r := by
  unfold store_New.f at H
  go_enter Tryd.func66, Tryd.ntmps66
  by_cases c1312 : a1298 < 0
  · have H := if_yes c1312 H
    have c1312b0 : decide (a1298 < 0) = true := decide_eq_true c1312
    clear c1312
    go_wp2_with fail
    go_ret2
    rw [← some_eq H]
    exact ⟨(by first | rfl | (simp [IntKind.wrap_u32]; done)), (HS.out).keep (l := []) (rest := [])⟩
  · have H := if_no c1312 H
    have c1312b0 : decide (a1298 < 0) = false := decide_eq_false c1312
    clear c1312
    by_cases c1313 : a1298 > 8388608
    · have H := if_yes c1313 H
      have c1313b0 : decide (8388608 < a1298) = true := decide_eq_true c1313
      clear c1313
      go_wp2_with fail
      go_ret2
      rw [← some_eq H]
      exact ⟨(by first | rfl | (simp [IntKind.wrap_u32]; done)), (HS.out).keep (l := []) (rest := [])⟩
    · have H := if_no c1313 H
      have c1313b0 : decide (8388608 < a1298) = false := decide_eq_false c1313
      clear c1313
      obtain ⟨m1314, HA1315, H⟩ := bind_some H
      obtain ⟨hm1316, hn1317⟩ := mkLen_eq HA1315
      have hm1316H := Aside0.mk hm1316
      clear hm1316
      go_wp2_with (first | ((with_reducible refine gate_dst (N := 11) rfl ?_); refine make_event rfl (N := 11) rfl 69 33 (.tmp 10) (.tmp 10) rfl .i64 (.int .u32 0) 4 Tryd.underlying69 (by kernel_rfl) rfl (by decide) (Value.int .u32) 0 rfl m1314 (by show Value.int _ _ = _; rw [hm1316H.out]) (by show Value.int _ _ = _; rw [hm1316H.out]) (by omega) HS.out ?_; intro g1318 w1319 HS1; replace HS : Aside0 (Sep (fps []) w [r4 (some ⟨g1318, 0, none⟩) m1314 m1314 (List.replicate m1314 (0 : Int))] w1319) := ⟨HS1⟩; clear HS1) | ((with_reducible refine gate_dst (N := 13) rfl ?_); refine box_on ?hg (N := 13) ?hd (cs := #[.slice (some ⟨g1318, 0, none⟩) m1314 m1314, .int .u64 0]) (t := 154) ?hr ?_; (case hd => rfl); (case hg => rfl); (case hr => first | (go_simp; done) | (go_simp; rfl)); intro g1322 hg w1323 hbox hb; replace HS : Aside0 (Sep (fps []) w [r4 (some ⟨g1318, 0, none⟩) m1314 m1314 (List.replicate m1314 (0 : Int)), b13 g1322 (some ⟨g1318, 0, none⟩) m1314 m1314 0] w1323) := ⟨HS.out.box hg hbox hb⟩; clear hg hbox hb))
      go_ret2
      rw [← some_eq H]
      exact ⟨g1322, (by first | rfl | (simp [IntKind.wrap_u32]; done)), (some ⟨g1318, 0, none⟩), m1314, m1314, ((HS.out).front 1 (by simp)).keep (l := [b13 g1322 (some ⟨g1318, 0, none⟩) m1314 m1314 0, r4 (some ⟨g1318, 0, none⟩) m1314 m1314 (List.replicate m1314 (0 : Int))]) (rest := [])⟩

set_option maxHeartbeats 30000000 in
set_option maxRecDepth 100000 in
theorem ground_New.calls (k : Nat) (a702 : Int) (a703 : Int) (a704 : Int) (a705 : Int) (r : Unit ⊕ ((Int × Int × Int × Int × List Int) ⊕ Int)) (w : World)  (HGl0 : Aside0 (Gl 0 #[.int .i64 0, .int .i64 0, .int .i64 0, .int .i64 0, .int .i64 0] (fps []) w)) (HS : Aside0 (Sep (fps []) w [] w)) (H : Aside0 (ground_New.f k a702 a703 a704 a705 = some r)) :
    Calls Tryd.prog 15 #[.agg #[.int .i64 a702, .int .i64 a703, .int .i64 a704, .int .i64 a705]] w fun e w' => Sum.elim (fun (r : Unit) => e = .returned (.tuple #[.pointer none, .int .i64 2]) ∧ Sep (fps []) w [] w') (fun (r_ : (Int × Int × Int × Int × List Int) ⊕ Int) => Sum.elim (fun (r : Int × Int × Int × Int × List Int) => ∃ (g1484 : Nat), e = .returned (.tuple #[.pointer (some ⟨g1484, 0, none⟩), .int .i64 0]) ∧ ∃ (g1485 : Nat) (A1486 : Option Addr) (m1487 : Nat) (n1488 : Nat), Sep (fps []) w [b14 g1484 g1485 r.1 r.2.1 r.2.2.1 r.2.2.2.1, b13 g1485 A1486 m1487 n1488 0, r4 A1486 m1487 n1488 r.2.2.2.2] w') (fun (r : Int) => e = .returned (.tuple #[.pointer none, .int .i64 r]) ∧ Sep (fps []) w [] w') r_) r := by
  unfold ground_New.f at H
  go_enter Tryd.func15, Tryd.ntmps15
  go_wp2_with (first | ((with_reducible refine gate_dst (N := 1) rfl ?_); refine box_on ?hg (N := 1) ?hd (cs := #[.int .i64 a702, .int .i64 a703, .int .i64 a704, .int .i64 a705]) (t := 30) ?hr ?_; (case hd => rfl); (case hg => rfl); (case hr => first | (go_simp; done) | (go_simp; rfl)); intro g1420 hg w1421 hbox hb; replace HS : Aside0 (Sep (fps []) w [b7 g1420 a702 a703 a704 a705] w1421) := ⟨HS.out.box hg hbox hb⟩; clear hg hbox hb; have hc1423 : w1421.cell? ⟨g1420, 0, none⟩ = some (.int .i64 a702) := blk_cellv (HS.out.at0) 0 rfl; have hc1424 : w1421.cell? ⟨g1420, 1, none⟩ = some (.int .i64 a703) := blk_cellv (HS.out.at0) 1 rfl; have hc1425 : w1421.cell? ⟨g1420, 2, none⟩ = some (.int .i64 a704) := blk_cellv (HS.out.at0) 2 rfl; have hc1426 : w1421.cell? ⟨g1420, 3, none⟩ = some (.int .i64 a705) := blk_cellv (HS.out.at0) 3 rfl))
  clear hc1423 hc1424 hc1425 hc1426
  obtain ⟨t1427, HA1428, H⟩ := bind_some H
  refine (plan_Of.calls _ a702 a703 a704 a705 t1427 _ ⟨Gl.pass (l := []) (rest := [b7 g1420 a702 a703 a704 a705]) HGl0.out HS.out⟩ ⟨HS.out.begin (l := []) (rest := [b7 g1420 a702 a703 a704 a705])⟩ HA1428).mono ?_
  rintro e_ w1429 ⟨rfl, hS⟩
  replace HS : Aside0 (Sep (fps []) w [b7 g1420 a702 a703 a704 a705] w1429) := ⟨HS.out.call (l := []) (rest := [b7 g1420 a702 a703 a704 a705]) hS⟩
  clear hS
  by_cases c1450 : t1427.2.2.2.2.2.2.2.2 = 0
  · have H := if_yes c1450 H
    have c1450b0 : (t1427.2.2.2.2.2.2.2.2 == 0) = true := beq_iff_eq.mpr c1450
    have c1450b1 : (t1427.2.2.2.2.2.2.2.2 != 0) = false := bne_eq_false_iff_eq.mpr c1450
    clear c1450
    go_wp2_with (first | ((with_reducible refine gate_dst (N := 4) rfl ?_); refine box_on ?hg (N := 4) ?hd (cs := #[.int .i64 0, .int .i64 0, .int .i64 0, .int .i64 0, .int .i64 0, .int .i64 0, .int .i64 0, .int .i64 0]) (t := 97) ?hr ?_; (case hd => rfl); (case hg => rfl); (case hr => first | (go_simp; done) | (go_simp; rfl)); intro g1430 hg w1431 hbox hb; replace HS : Aside0 (Sep (fps []) w [b7 g1420 a702 a703 a704 a705, b10 g1430 0 0 0 0 0 0 0 0] w1431) := ⟨HS.out.box hg hbox hb⟩; clear hg hbox hb; have hc1433 : w1431.cell? ⟨g1430, 0, none⟩ = some (.int .i64 0) := blk_cellv (HS.out.at1) 0 rfl; have hz1434 : w1431.frozen? ⟨g1430, 0, none⟩ = false := blk_fz (HS.out.at1) 0; have hc1435 : w1431.cell? ⟨g1430, 1, none⟩ = some (.int .i64 0) := blk_cellv (HS.out.at1) 1 rfl; have hz1436 : w1431.frozen? ⟨g1430, 1, none⟩ = false := blk_fz (HS.out.at1) 1; have hc1437 : w1431.cell? ⟨g1430, 2, none⟩ = some (.int .i64 0) := blk_cellv (HS.out.at1) 2 rfl; have hz1438 : w1431.frozen? ⟨g1430, 2, none⟩ = false := blk_fz (HS.out.at1) 2; have hc1439 : w1431.cell? ⟨g1430, 3, none⟩ = some (.int .i64 0) := blk_cellv (HS.out.at1) 3 rfl; have hz1440 : w1431.frozen? ⟨g1430, 3, none⟩ = false := blk_fz (HS.out.at1) 3; have hc1441 : w1431.cell? ⟨g1430, 4, none⟩ = some (.int .i64 0) := blk_cellv (HS.out.at1) 4 rfl; have hz1442 : w1431.frozen? ⟨g1430, 4, none⟩ = false := blk_fz (HS.out.at1) 4; have hc1443 : w1431.cell? ⟨g1430, 5, none⟩ = some (.int .i64 0) := blk_cellv (HS.out.at1) 5 rfl; have hz1444 : w1431.frozen? ⟨g1430, 5, none⟩ = false := blk_fz (HS.out.at1) 5; have hc1445 : w1431.cell? ⟨g1430, 6, none⟩ = some (.int .i64 0) := blk_cellv (HS.out.at1) 6 rfl; have hz1446 : w1431.frozen? ⟨g1430, 6, none⟩ = false := blk_fz (HS.out.at1) 6; have hc1447 : w1431.cell? ⟨g1430, 7, none⟩ = some (.int .i64 0) := blk_cellv (HS.out.at1) 7 rfl; have hz1448 : w1431.frozen? ⟨g1430, 7, none⟩ = false := blk_fz (HS.out.at1) 7) | ((with_reducible refine gate_store (t := 97) (p := 4) rfl ?_); refine store_event (w1 := (World.setCell (World.setCell (World.setCell (World.setCell (World.setCell (World.setCell (World.setCell (World.setCell w1431 ⟨g1430, 0, none⟩ (.int .i64 t1427.1)) ⟨g1430, 1, none⟩ (.int .i64 t1427.2.1)) ⟨g1430, 2, none⟩ (.int .i64 t1427.2.2.1)) ⟨g1430, 3, none⟩ (.int .i64 t1427.2.2.2.1)) ⟨g1430, 4, none⟩ (.int .i64 t1427.2.2.2.2.1)) ⟨g1430, 5, none⟩ (.int .i64 t1427.2.2.2.2.2.1)) ⟨g1430, 6, none⟩ (.int .i64 t1427.2.2.2.2.2.2.1)) ⟨g1430, 7, none⟩ (.int .i64 t1427.2.2.2.2.2.2.2.1))) rfl (t := 97) (p := 4) rfl rfl ?hr ?_; (case hr => first | (go_simp; done) | (go_simp; rfl)); intro w1449 hst; clear hc1433 hz1434 hc1435 hz1436 hc1437 hz1438 hc1439 hz1440 hc1441 hz1442 hc1443 hz1444 hc1445 hz1446 hc1447 hz1448; replace HS : Aside0 (Sep (fps []) w [b7 g1420 a702 a703 a704 a705, b10 g1430 t1427.1 t1427.2.1 t1427.2.2.1 t1427.2.2.2.1 t1427.2.2.2.2.1 t1427.2.2.2.2.2.1 t1427.2.2.2.2.2.2.1 t1427.2.2.2.2.2.2.2.1] w1449) := ⟨by rw [hst]; exact HS.out.setAll (l1 := [b7 g1420 a702 a703 a704 a705]) (l2 := []) [.int .i64 t1427.1, .int .i64 t1427.2.1, .int .i64 t1427.2.2.1, .int .i64 t1427.2.2.2.1, .int .i64 t1427.2.2.2.2.1, .int .i64 t1427.2.2.2.2.2.1, .int .i64 t1427.2.2.2.2.2.2.1, .int .i64 t1427.2.2.2.2.2.2.2.1] rfl⟩; clear hst; have hc1451 : w1449.cell? ⟨g1430, 0, none⟩ = some (.int .i64 t1427.1) := blk_cellv (HS.out.at1) 0 rfl))
    clear hc1451
    obtain ⟨t1452, HA1453, H⟩ := bind_some H
    rcases t1452 with t1454 | t1455
    · have H := sum_l H
      refine (store_New.calls t1427.1 (.inl t1454) _ ⟨Gl.pass (l := []) (rest := [b7 g1420 a702 a703 a704 a705, b10 g1430 t1427.1 t1427.2.1 t1427.2.2.1 t1427.2.2.2.1 t1427.2.2.2.2.1 t1427.2.2.2.2.2.1 t1427.2.2.2.2.2.2.1 t1427.2.2.2.2.2.2.2.1]) HGl0.out HS.out⟩ ⟨HS.out.begin (l := []) (rest := [b7 g1420 a702 a703 a704 a705, b10 g1430 t1427.1 t1427.2.1 t1427.2.2.1 t1427.2.2.2.1 t1427.2.2.2.2.1 t1427.2.2.2.2.2.1 t1427.2.2.2.2.2.2.1 t1427.2.2.2.2.2.2.2.1])⟩ HA1453).mono ?_
      rintro e_ w1456 ⟨rfl, hS⟩
      replace HS : Aside0 (Sep (fps []) w [b7 g1420 a702 a703 a704 a705, b10 g1430 t1427.1 t1427.2.1 t1427.2.2.1 t1427.2.2.2.1 t1427.2.2.2.2.1 t1427.2.2.2.2.2.1 t1427.2.2.2.2.2.2.1 t1427.2.2.2.2.2.2.2.1] w1456) := ⟨HS.out.call (l := []) (rest := [b7 g1420 a702 a703 a704 a705, b10 g1430 t1427.1 t1427.2.1 t1427.2.2.1 t1427.2.2.2.1 t1427.2.2.2.2.1 t1427.2.2.2.2.2.1 t1427.2.2.2.2.2.2.1 t1427.2.2.2.2.2.2.2.1]) hS⟩
      clear hS
      replace HS : Aside0 (Sep (fps []) w [b7 g1420 a702 a703 a704 a705] w1456) := ⟨HS.out.sub (.cons_cons _ (.cons _ .slnil))⟩
      replace HS : Aside0 (Sep (fps []) w [] w1456) := ⟨HS.out.sub (.cons _ .slnil)⟩
      go_wp2_with fail
      go_ret2
      rw [← some_eq H]
      exact ⟨(by first | rfl | (simp [IntKind.wrap_u32]; done)), (HS.out).keep (l := []) (rest := [])⟩
    · have H := sum_r H
      refine (store_New.calls t1427.1 (.inr t1455) _ ⟨Gl.pass (l := []) (rest := [b7 g1420 a702 a703 a704 a705, b10 g1430 t1427.1 t1427.2.1 t1427.2.2.1 t1427.2.2.2.1 t1427.2.2.2.2.1 t1427.2.2.2.2.2.1 t1427.2.2.2.2.2.2.1 t1427.2.2.2.2.2.2.2.1]) HGl0.out HS.out⟩ ⟨HS.out.begin (l := []) (rest := [b7 g1420 a702 a703 a704 a705, b10 g1430 t1427.1 t1427.2.1 t1427.2.2.1 t1427.2.2.2.1 t1427.2.2.2.2.1 t1427.2.2.2.2.2.1 t1427.2.2.2.2.2.2.1 t1427.2.2.2.2.2.2.2.1])⟩ HA1453).mono ?_
      rintro e_ w1457 ⟨g1460, rfl, A1461, m1462, n1463, hS⟩
      replace HS : Aside0 (Sep (fps []) w [b13 g1460 A1461 m1462 n1463 0, r4 A1461 m1462 n1463 t1455, b7 g1420 a702 a703 a704 a705, b10 g1430 t1427.1 t1427.2.1 t1427.2.2.1 t1427.2.2.2.1 t1427.2.2.2.2.1 t1427.2.2.2.2.2.1 t1427.2.2.2.2.2.2.1 t1427.2.2.2.2.2.2.2.1] w1457) := ⟨HS.out.call (l := []) (rest := [b7 g1420 a702 a703 a704 a705, b10 g1430 t1427.1 t1427.2.1 t1427.2.2.1 t1427.2.2.2.1 t1427.2.2.2.2.1 t1427.2.2.2.2.2.1 t1427.2.2.2.2.2.2.1 t1427.2.2.2.2.2.2.2.1]) hS⟩
      clear hS
      obtain rfl := (row_len (HS.out.at1)).symm
      replace HS : Aside0 (Sep (fps []) w [b13 g1460 A1461 t1455.length n1463 0, r4 A1461 t1455.length n1463 t1455, b7 g1420 a702 a703 a704 a705] w1457) := ⟨HS.out.sub (.cons_cons _ (.cons_cons _ (.cons_cons _ (.cons _ .slnil))))⟩
      have hc1465 : w1457.cell? ⟨g1420, 0, none⟩ = some (.int .i64 a702) := blk_cellv (HS.out.at2) 0 rfl
      have hc1466 : w1457.cell? ⟨g1420, 1, none⟩ = some (.int .i64 a703) := blk_cellv (HS.out.at2) 1 rfl
      have hc1467 : w1457.cell? ⟨g1420, 2, none⟩ = some (.int .i64 a704) := blk_cellv (HS.out.at2) 2 rfl
      have hc1468 : w1457.cell? ⟨g1420, 3, none⟩ = some (.int .i64 a705) := blk_cellv (HS.out.at2) 3 rfl
      go_wp2_with (first | ((with_reducible refine gate_dst (N := 28) rfl ?_); refine box_on ?hg (N := 28) ?hd (cs := #[.pointer (some ⟨g1460, 0, none⟩), .int .i64 a702, .int .i64 a703, .int .i64 a704, .int .i64 a705]) (t := 106) ?hr ?_; (case hd => rfl); (case hg => rfl); (case hr => first | (go_simp; done) | (go_simp; rfl)); intro g1469 hg w1470 hbox hb; clear hc1465 hc1466 hc1467 hc1468; replace HS : Aside0 (Sep (fps []) w [b13 g1460 A1461 t1455.length n1463 0, r4 A1461 t1455.length n1463 t1455, b7 g1420 a702 a703 a704 a705, b14 g1469 g1460 a702 a703 a704 a705] w1470) := ⟨HS.out.box hg hbox hb⟩; clear hg hbox hb; replace HS : Aside0 (Sep (fps []) w [b13 g1460 A1461 t1455.length n1463 0, r4 A1461 t1455.length n1463 t1455, b14 g1469 g1460 a702 a703 a704 a705] w1470) := ⟨HS.out.sub (.cons_cons _ (.cons_cons _ (.cons _ (.cons_cons _ .slnil))))⟩))
      go_ret2
      rw [← some_eq H]
      exact ⟨g1469, (by first | rfl | (simp [IntKind.wrap_u32]; done)), g1460, A1461, t1455.length, n1463, ((((HS.out).front 1 (by simp)).front 1 (by simp)).front 2 (by simp)).keep (l := [b14 g1469 g1460 a702 a703 a704 a705, b13 g1460 A1461 t1455.length n1463 0, r4 A1461 t1455.length n1463 t1455]) (rest := [])⟩
  · have H := if_no c1450 H
    have c1450b0 : (t1427.2.2.2.2.2.2.2.2 == 0) = false := beq_eq_false_iff_ne.mpr c1450
    have c1450b1 : (t1427.2.2.2.2.2.2.2.2 != 0) = true := bne_iff_ne.mpr c1450
    clear c1450
    go_wp2_with (first | ((with_reducible refine gate_dst (N := 4) rfl ?_); refine box_on ?hg (N := 4) ?hd (cs := #[.int .i64 0, .int .i64 0, .int .i64 0, .int .i64 0, .int .i64 0, .int .i64 0, .int .i64 0, .int .i64 0]) (t := 97) ?hr ?_; (case hd => rfl); (case hg => rfl); (case hr => first | (go_simp; done) | (go_simp; rfl)); intro g1430 hg w1431 hbox hb; replace HS : Aside0 (Sep (fps []) w [b7 g1420 a702 a703 a704 a705, b10 g1430 0 0 0 0 0 0 0 0] w1431) := ⟨HS.out.box hg hbox hb⟩; clear hg hbox hb; have hc1433 : w1431.cell? ⟨g1430, 0, none⟩ = some (.int .i64 0) := blk_cellv (HS.out.at1) 0 rfl; have hz1434 : w1431.frozen? ⟨g1430, 0, none⟩ = false := blk_fz (HS.out.at1) 0; have hc1435 : w1431.cell? ⟨g1430, 1, none⟩ = some (.int .i64 0) := blk_cellv (HS.out.at1) 1 rfl; have hz1436 : w1431.frozen? ⟨g1430, 1, none⟩ = false := blk_fz (HS.out.at1) 1; have hc1437 : w1431.cell? ⟨g1430, 2, none⟩ = some (.int .i64 0) := blk_cellv (HS.out.at1) 2 rfl; have hz1438 : w1431.frozen? ⟨g1430, 2, none⟩ = false := blk_fz (HS.out.at1) 2; have hc1439 : w1431.cell? ⟨g1430, 3, none⟩ = some (.int .i64 0) := blk_cellv (HS.out.at1) 3 rfl; have hz1440 : w1431.frozen? ⟨g1430, 3, none⟩ = false := blk_fz (HS.out.at1) 3; have hc1441 : w1431.cell? ⟨g1430, 4, none⟩ = some (.int .i64 0) := blk_cellv (HS.out.at1) 4 rfl; have hz1442 : w1431.frozen? ⟨g1430, 4, none⟩ = false := blk_fz (HS.out.at1) 4; have hc1443 : w1431.cell? ⟨g1430, 5, none⟩ = some (.int .i64 0) := blk_cellv (HS.out.at1) 5 rfl; have hz1444 : w1431.frozen? ⟨g1430, 5, none⟩ = false := blk_fz (HS.out.at1) 5; have hc1445 : w1431.cell? ⟨g1430, 6, none⟩ = some (.int .i64 0) := blk_cellv (HS.out.at1) 6 rfl; have hz1446 : w1431.frozen? ⟨g1430, 6, none⟩ = false := blk_fz (HS.out.at1) 6; have hc1447 : w1431.cell? ⟨g1430, 7, none⟩ = some (.int .i64 0) := blk_cellv (HS.out.at1) 7 rfl; have hz1448 : w1431.frozen? ⟨g1430, 7, none⟩ = false := blk_fz (HS.out.at1) 7) | ((with_reducible refine gate_store (t := 97) (p := 4) rfl ?_); refine store_event (w1 := (World.setCell (World.setCell (World.setCell (World.setCell (World.setCell (World.setCell (World.setCell (World.setCell w1431 ⟨g1430, 0, none⟩ (.int .i64 t1427.1)) ⟨g1430, 1, none⟩ (.int .i64 t1427.2.1)) ⟨g1430, 2, none⟩ (.int .i64 t1427.2.2.1)) ⟨g1430, 3, none⟩ (.int .i64 t1427.2.2.2.1)) ⟨g1430, 4, none⟩ (.int .i64 t1427.2.2.2.2.1)) ⟨g1430, 5, none⟩ (.int .i64 t1427.2.2.2.2.2.1)) ⟨g1430, 6, none⟩ (.int .i64 t1427.2.2.2.2.2.2.1)) ⟨g1430, 7, none⟩ (.int .i64 t1427.2.2.2.2.2.2.2.1))) rfl (t := 97) (p := 4) rfl rfl ?hr ?_; (case hr => first | (go_simp; done) | (go_simp; rfl)); intro w1449 hst; clear hc1433 hz1434 hc1435 hz1436 hc1437 hz1438 hc1439 hz1440 hc1441 hz1442 hc1443 hz1444 hc1445 hz1446 hc1447 hz1448; replace HS : Aside0 (Sep (fps []) w [b7 g1420 a702 a703 a704 a705, b10 g1430 t1427.1 t1427.2.1 t1427.2.2.1 t1427.2.2.2.1 t1427.2.2.2.2.1 t1427.2.2.2.2.2.1 t1427.2.2.2.2.2.2.1 t1427.2.2.2.2.2.2.2.1] w1449) := ⟨by rw [hst]; exact HS.out.setAll (l1 := [b7 g1420 a702 a703 a704 a705]) (l2 := []) [.int .i64 t1427.1, .int .i64 t1427.2.1, .int .i64 t1427.2.2.1, .int .i64 t1427.2.2.2.1, .int .i64 t1427.2.2.2.2.1, .int .i64 t1427.2.2.2.2.2.1, .int .i64 t1427.2.2.2.2.2.2.1, .int .i64 t1427.2.2.2.2.2.2.2.1] rfl⟩; clear hst; replace HS : Aside0 (Sep (fps []) w [] w1449) := ⟨HS.out.sub (.cons _ (.cons _ .slnil))⟩))
    go_ret2
    rw [← some_eq H]
    exact ⟨(by first | rfl | (simp [IntKind.wrap_u32]; done)), (HS.out).keep (l := []) (rest := [])⟩

set_option maxHeartbeats 30000000 in
set_option maxRecDepth 100000 in
theorem quitrentlaw09_tagOf.calls (a1516 : Int) (r : Int × Int × Int × Int × Int × Int × Int) (w : World)  (HGl0 : Aside0 (Gl 0 #[.int .i64 0, .int .i64 0, .int .i64 0, .int .i64 0, .int .i64 0] (fps []) w)) (HS : Aside0 (Sep (fps []) w [] w)) (H : Aside0 (quitrentlaw09_tagOf.f a1516 = some r)) :
    Calls Tryd.prog 78 #[.int .u8 a1516] w fun e w' => e = .returned (.agg #[.int .i64 r.1, .int .i64 r.2.1, .int .i64 r.2.2.1, .int .i64 r.2.2.2.1, .int .i64 r.2.2.2.2.1, .int .i64 r.2.2.2.2.2.1, .int .i64 r.2.2.2.2.2.2]) ∧ Sep (fps []) w [] w' := by
  unfold quitrentlaw09_tagOf.f at H
  go_enter Tryd.func78, Tryd.ntmps78
  by_cases c1539 : (wrap64 (Int.tmod a1516 4)) = 1
  · have H := if_yes c1539 H
    have c1539b0 : ((wrap64 (Int.tmod a1516 4)) == 1) = true := beq_iff_eq.mpr c1539
    have c1539b1 : ((wrap64 (Int.tmod a1516 4)) != 1) = false := bne_eq_false_iff_eq.mpr c1539
    clear c1539
    go_wp2_with (first | ((with_reducible refine gate_dst (N := 2) rfl ?_); refine box_on ?hg (N := 2) ?hd (cs := #[.int .i64 0, .int .i64 0, .int .i64 0, .int .i64 0, .int .i64 0, .int .i64 0, .int .i64 0]) (t := 32) ?hr ?_; (case hd => rfl); (case hg => rfl); (case hr => first | (go_simp; done) | (go_simp; rfl)); intro g1517 hg w1518 hbox hb; replace HS : Aside0 (Sep (fps []) w [b1 g1517 0 0 0 0 0 0 0] w1518) := ⟨HS.out.box hg hbox hb⟩; clear hg hbox hb) | ((with_reducible refine gate_dst (N := 3) rfl ?_); refine box_on ?hg (N := 3) ?hd (cs := #[.int .i64 0, .int .i64 0, .int .i64 0, .int .i64 0, .int .i64 0, .int .i64 0, .int .i64 0]) (t := 32) ?hr ?_; (case hd => rfl); (case hg => rfl); (case hr => first | (go_simp; done) | (go_simp; rfl)); intro g1520 hg w1521 hbox hb; replace HS : Aside0 (Sep (fps []) w [b1 g1517 0 0 0 0 0 0 0, b1 g1520 0 0 0 0 0 0 0] w1521) := ⟨HS.out.box hg hbox hb⟩; clear hg hbox hb; have hc1523 : w1521.cell? ⟨g1520, 0, none⟩ = some (.int .i64 0) := blk_cellv (HS.out.at1) 0 rfl; have hz1524 : w1521.frozen? ⟨g1520, 0, none⟩ = false := blk_fz (HS.out.at1) 0; have hc1525 : w1521.cell? ⟨g1520, 1, none⟩ = some (.int .i64 0) := blk_cellv (HS.out.at1) 1 rfl; have hz1526 : w1521.frozen? ⟨g1520, 1, none⟩ = false := blk_fz (HS.out.at1) 1; have hc1527 : w1521.cell? ⟨g1520, 2, none⟩ = some (.int .i64 0) := blk_cellv (HS.out.at1) 2 rfl; have hz1528 : w1521.frozen? ⟨g1520, 2, none⟩ = false := blk_fz (HS.out.at1) 2; have hc1529 : w1521.cell? ⟨g1520, 3, none⟩ = some (.int .i64 0) := blk_cellv (HS.out.at1) 3 rfl; have hz1530 : w1521.frozen? ⟨g1520, 3, none⟩ = false := blk_fz (HS.out.at1) 3; have hc1531 : w1521.cell? ⟨g1520, 4, none⟩ = some (.int .i64 0) := blk_cellv (HS.out.at1) 4 rfl; have hz1532 : w1521.frozen? ⟨g1520, 4, none⟩ = false := blk_fz (HS.out.at1) 4; have hc1533 : w1521.cell? ⟨g1520, 5, none⟩ = some (.int .i64 0) := blk_cellv (HS.out.at1) 5 rfl; have hz1534 : w1521.frozen? ⟨g1520, 5, none⟩ = false := blk_fz (HS.out.at1) 5; have hc1535 : w1521.cell? ⟨g1520, 6, none⟩ = some (.int .i64 0) := blk_cellv (HS.out.at1) 6 rfl; have hz1536 : w1521.frozen? ⟨g1520, 6, none⟩ = false := blk_fz (HS.out.at1) 6) | ((with_reducible refine gate_store (t := 32) (p := 3) rfl ?_); refine store_event (w1 := (World.setCell (World.setCell (World.setCell (World.setCell (World.setCell (World.setCell (World.setCell w1521 ⟨g1520, 0, none⟩ (.int .i64 (wrap64 (Int.tmod a1516 4)))) ⟨g1520, 1, none⟩ (.int .i64 0)) ⟨g1520, 2, none⟩ (.int .i64 0)) ⟨g1520, 3, none⟩ (.int .i64 0)) ⟨g1520, 4, none⟩ (.int .i64 0)) ⟨g1520, 5, none⟩ (.int .i64 0)) ⟨g1520, 6, none⟩ (.int .i64 0))) rfl (t := 32) (p := 3) rfl rfl ?hr ?_; (case hr => first | (go_simp; done) | (go_simp; rfl)); intro w1537 hst; clear hc1523 hz1524 hc1525 hz1526 hc1527 hz1528 hc1529 hz1530 hc1531 hz1532 hc1533 hz1534 hc1535 hz1536; replace HS : Aside0 (Sep (fps []) w [b1 g1517 0 0 0 0 0 0 0, b1 g1520 (wrap64 (Int.tmod a1516 4)) 0 0 0 0 0 0] w1537) := ⟨by rw [hst]; exact HS.out.setAll (l1 := [b1 g1517 0 0 0 0 0 0 0]) (l2 := []) [.int .i64 (wrap64 (Int.tmod a1516 4)), .int .i64 0, .int .i64 0, .int .i64 0, .int .i64 0, .int .i64 0, .int .i64 0] rfl⟩; clear hst; have hc1538 : w1537.cell? ⟨g1520, 0, none⟩ = some (.int .i64 (wrap64 (Int.tmod a1516 4))) := blk_cellv (HS.out.at1) 0 rfl; have hc1540 : w1537.cell? ⟨g1520, 1, none⟩ = some (.int .i64 0) := blk_cellv (HS.out.at1) 1 rfl; have hz1541 : w1537.frozen? ⟨g1520, 1, none⟩ = false := blk_fz (HS.out.at1) 1) | ((with_reducible refine gate_store (t := 3) (p := 24) rfl ?_); refine store_event (w1 := (World.setCell w1537 ⟨g1520, 1, none⟩ (.int .i64 (((Int.tdiv a1516 4) % 256) % 2)))) rfl (t := 3) (p := 24) rfl rfl ?hr ?_; (case hr => first | (go_simp; done) | (go_simp; rfl)); intro w1542 hst; clear hc1538 hc1540 hz1541; have hq0 : Sep (fps []) w [b1 g1517 0 0 0 0 0 0 0, b1 g1520 (wrap64 (Int.tmod a1516 4)) (((Int.tdiv a1516 4) % 256) % 2) 0 0 0 0 0] (World.setCell w1537 ⟨g1520, 1, none⟩ (.int .i64 (((Int.tdiv a1516 4) % 256) % 2))) := (HS.out).set1 (l1 := [b1 g1517 0 0 0 0 0 0 0]) (l2 := []) 1 (.int .i64 (((Int.tdiv a1516 4) % 256) % 2)); replace HS : Aside0 (Sep (fps []) w [b1 g1517 0 0 0 0 0 0 0, b1 g1520 (wrap64 (Int.tmod a1516 4)) (((Int.tdiv a1516 4) % 256) % 2) 0 0 0 0 0] w1542) := ⟨by rw [hst]; exact hq0⟩; clear hq0; clear hst; have hc1543 : w1542.cell? ⟨g1520, 3, none⟩ = some (.int .i64 0) := blk_cellv (HS.out.at1) 3 rfl; have hz1544 : w1542.frozen? ⟨g1520, 3, none⟩ = false := blk_fz (HS.out.at1) 3) | ((with_reducible refine gate_store (t := 3) (p := 25) rfl ?_); refine store_event (w1 := (World.setCell w1542 ⟨g1520, 3, none⟩ (.int .i64 (((Int.tdiv a1516 8) % 256) % 2)))) rfl (t := 3) (p := 25) rfl rfl ?hr ?_; (case hr => first | (go_simp; done) | (go_simp; rfl)); intro w1545 hst; clear hc1543 hz1544; have hq0 : Sep (fps []) w [b1 g1517 0 0 0 0 0 0 0, b1 g1520 (wrap64 (Int.tmod a1516 4)) (((Int.tdiv a1516 4) % 256) % 2) 0 (((Int.tdiv a1516 8) % 256) % 2) 0 0 0] (World.setCell w1542 ⟨g1520, 3, none⟩ (.int .i64 (((Int.tdiv a1516 8) % 256) % 2))) := (HS.out).set1 (l1 := [b1 g1517 0 0 0 0 0 0 0]) (l2 := []) 3 (.int .i64 (((Int.tdiv a1516 8) % 256) % 2)); replace HS : Aside0 (Sep (fps []) w [b1 g1517 0 0 0 0 0 0 0, b1 g1520 (wrap64 (Int.tmod a1516 4)) (((Int.tdiv a1516 4) % 256) % 2) 0 (((Int.tdiv a1516 8) % 256) % 2) 0 0 0] w1545) := ⟨by rw [hst]; exact hq0⟩; clear hq0; clear hst; have hc1546 : w1545.cell? ⟨g1520, 0, none⟩ = some (.int .i64 (wrap64 (Int.tmod a1516 4))) := blk_cellv (HS.out.at1) 0 rfl; have hc1547 : w1545.cell? ⟨g1520, 1, none⟩ = some (.int .i64 (((Int.tdiv a1516 4) % 256) % 2)) := blk_cellv (HS.out.at1) 1 rfl; have hc1548 : w1545.cell? ⟨g1520, 2, none⟩ = some (.int .i64 0) := blk_cellv (HS.out.at1) 2 rfl; have hc1549 : w1545.cell? ⟨g1520, 3, none⟩ = some (.int .i64 (((Int.tdiv a1516 8) % 256) % 2)) := blk_cellv (HS.out.at1) 3 rfl; have hc1550 : w1545.cell? ⟨g1520, 4, none⟩ = some (.int .i64 0) := blk_cellv (HS.out.at1) 4 rfl; have hc1551 : w1545.cell? ⟨g1520, 5, none⟩ = some (.int .i64 0) := blk_cellv (HS.out.at1) 5 rfl; have hc1552 : w1545.cell? ⟨g1520, 6, none⟩ = some (.int .i64 0) := blk_cellv (HS.out.at1) 6 rfl; have hc1553 : w1545.cell? ⟨g1517, 0, none⟩ = some (.int .i64 0) := blk_cellv (HS.out.at0) 0 rfl; have hz1554 : w1545.frozen? ⟨g1517, 0, none⟩ = false := blk_fz (HS.out.at0) 0; have hc1555 : w1545.cell? ⟨g1517, 1, none⟩ = some (.int .i64 0) := blk_cellv (HS.out.at0) 1 rfl; have hz1556 : w1545.frozen? ⟨g1517, 1, none⟩ = false := blk_fz (HS.out.at0) 1; have hc1557 : w1545.cell? ⟨g1517, 2, none⟩ = some (.int .i64 0) := blk_cellv (HS.out.at0) 2 rfl; have hz1558 : w1545.frozen? ⟨g1517, 2, none⟩ = false := blk_fz (HS.out.at0) 2; have hc1559 : w1545.cell? ⟨g1517, 3, none⟩ = some (.int .i64 0) := blk_cellv (HS.out.at0) 3 rfl; have hz1560 : w1545.frozen? ⟨g1517, 3, none⟩ = false := blk_fz (HS.out.at0) 3; have hc1561 : w1545.cell? ⟨g1517, 4, none⟩ = some (.int .i64 0) := blk_cellv (HS.out.at0) 4 rfl; have hz1562 : w1545.frozen? ⟨g1517, 4, none⟩ = false := blk_fz (HS.out.at0) 4; have hc1563 : w1545.cell? ⟨g1517, 5, none⟩ = some (.int .i64 0) := blk_cellv (HS.out.at0) 5 rfl; have hz1564 : w1545.frozen? ⟨g1517, 5, none⟩ = false := blk_fz (HS.out.at0) 5; have hc1565 : w1545.cell? ⟨g1517, 6, none⟩ = some (.int .i64 0) := blk_cellv (HS.out.at0) 6 rfl; have hz1566 : w1545.frozen? ⟨g1517, 6, none⟩ = false := blk_fz (HS.out.at0) 6) | ((with_reducible refine gate_store (t := 32) (p := 2) rfl ?_); refine store_event (w1 := (World.setCell (World.setCell (World.setCell (World.setCell (World.setCell (World.setCell (World.setCell w1545 ⟨g1517, 0, none⟩ (.int .i64 (wrap64 (Int.tmod a1516 4)))) ⟨g1517, 1, none⟩ (.int .i64 (((Int.tdiv a1516 4) % 256) % 2))) ⟨g1517, 2, none⟩ (.int .i64 0)) ⟨g1517, 3, none⟩ (.int .i64 (((Int.tdiv a1516 8) % 256) % 2))) ⟨g1517, 4, none⟩ (.int .i64 0)) ⟨g1517, 5, none⟩ (.int .i64 0)) ⟨g1517, 6, none⟩ (.int .i64 0))) rfl (t := 32) (p := 2) rfl rfl ?hr ?_; (case hr => first | (go_simp; done) | (go_simp; rfl)); intro w1567 hst; clear hc1546 hc1547 hc1548 hc1549 hc1550 hc1551 hc1552 hc1553 hz1554 hc1555 hz1556 hc1557 hz1558 hc1559 hz1560 hc1561 hz1562 hc1563 hz1564 hc1565 hz1566; replace HS : Aside0 (Sep (fps []) w [b1 g1517 (wrap64 (Int.tmod a1516 4)) (((Int.tdiv a1516 4) % 256) % 2) 0 (((Int.tdiv a1516 8) % 256) % 2) 0 0 0, b1 g1520 (wrap64 (Int.tmod a1516 4)) (((Int.tdiv a1516 4) % 256) % 2) 0 (((Int.tdiv a1516 8) % 256) % 2) 0 0 0] w1567) := ⟨by rw [hst]; exact HS.out.setAll (l1 := []) (l2 := [b1 g1520 (wrap64 (Int.tmod a1516 4)) (((Int.tdiv a1516 4) % 256) % 2) 0 (((Int.tdiv a1516 8) % 256) % 2) 0 0 0]) [.int .i64 (wrap64 (Int.tmod a1516 4)), .int .i64 (((Int.tdiv a1516 4) % 256) % 2), .int .i64 0, .int .i64 (((Int.tdiv a1516 8) % 256) % 2), .int .i64 0, .int .i64 0, .int .i64 0] rfl⟩; clear hst; replace HS : Aside0 (Sep (fps []) w [b1 g1517 (wrap64 (Int.tmod a1516 4)) (((Int.tdiv a1516 4) % 256) % 2) 0 (((Int.tdiv a1516 8) % 256) % 2) 0 0 0] w1567) := ⟨HS.out.sub (.cons_cons _ (.cons _ .slnil))⟩))
    have hc1568 : w1567.cell? ⟨g1517, 0, none⟩ = some (.int .i64 (wrap64 (Int.tmod a1516 4))) := blk_cellv (HS.out.at0) 0 rfl
    have hc1569 : w1567.cell? ⟨g1517, 1, none⟩ = some (.int .i64 (((Int.tdiv a1516 4) % 256) % 2)) := blk_cellv (HS.out.at0) 1 rfl
    have hc1570 : w1567.cell? ⟨g1517, 2, none⟩ = some (.int .i64 0) := blk_cellv (HS.out.at0) 2 rfl
    have hc1571 : w1567.cell? ⟨g1517, 3, none⟩ = some (.int .i64 (((Int.tdiv a1516 8) % 256) % 2)) := blk_cellv (HS.out.at0) 3 rfl
    have hc1572 : w1567.cell? ⟨g1517, 4, none⟩ = some (.int .i64 0) := blk_cellv (HS.out.at0) 4 rfl
    have hc1573 : w1567.cell? ⟨g1517, 5, none⟩ = some (.int .i64 0) := blk_cellv (HS.out.at0) 5 rfl
    have hc1574 : w1567.cell? ⟨g1517, 6, none⟩ = some (.int .i64 0) := blk_cellv (HS.out.at0) 6 rfl
    refine bodyPost_ret (v := .agg #[.int .i64 (wrap64 (Int.tmod a1516 4)), .int .i64 (((Int.tdiv a1516 4) % 256) % 2), .int .i64 0, .int .i64 (((Int.tdiv a1516 8) % 256) % 2), .int .i64 0, .int .i64 0, .int .i64 0]) (by simp [results, Tryd.results78, go_sem, hc1568, hc1569, hc1570, hc1571, hc1572, hc1573, hc1574]) rfl ?_
    rw [← some_eq H]
    exact ⟨(by first | rfl | (simp [IntKind.wrap_u32]; done)), (HS.out).keep (l := []) (rest := [b1 g1517 (wrap64 (Int.tmod a1516 4)) (((Int.tdiv a1516 4) % 256) % 2) 0 (((Int.tdiv a1516 8) % 256) % 2) 0 0 0])⟩
  · have H := if_no c1539 H
    have c1539b0 : ((wrap64 (Int.tmod a1516 4)) == 1) = false := beq_eq_false_iff_ne.mpr c1539
    have c1539b1 : ((wrap64 (Int.tmod a1516 4)) != 1) = true := bne_iff_ne.mpr c1539
    clear c1539
    by_cases c1575 : (wrap64 (Int.tmod a1516 4)) = 2
    · have H := if_yes c1575 H
      have c1575b0 : ((wrap64 (Int.tmod a1516 4)) == 2) = true := beq_iff_eq.mpr c1575
      have c1575b1 : ((wrap64 (Int.tmod a1516 4)) != 2) = false := bne_eq_false_iff_eq.mpr c1575
      clear c1575
      go_wp2_with (first | ((with_reducible refine gate_dst (N := 2) rfl ?_); refine box_on ?hg (N := 2) ?hd (cs := #[.int .i64 0, .int .i64 0, .int .i64 0, .int .i64 0, .int .i64 0, .int .i64 0, .int .i64 0]) (t := 32) ?hr ?_; (case hd => rfl); (case hg => rfl); (case hr => first | (go_simp; done) | (go_simp; rfl)); intro g1517 hg w1518 hbox hb; replace HS : Aside0 (Sep (fps []) w [b1 g1517 0 0 0 0 0 0 0] w1518) := ⟨HS.out.box hg hbox hb⟩; clear hg hbox hb) | ((with_reducible refine gate_dst (N := 3) rfl ?_); refine box_on ?hg (N := 3) ?hd (cs := #[.int .i64 0, .int .i64 0, .int .i64 0, .int .i64 0, .int .i64 0, .int .i64 0, .int .i64 0]) (t := 32) ?hr ?_; (case hd => rfl); (case hg => rfl); (case hr => first | (go_simp; done) | (go_simp; rfl)); intro g1520 hg w1521 hbox hb; replace HS : Aside0 (Sep (fps []) w [b1 g1517 0 0 0 0 0 0 0, b1 g1520 0 0 0 0 0 0 0] w1521) := ⟨HS.out.box hg hbox hb⟩; clear hg hbox hb; have hc1523 : w1521.cell? ⟨g1520, 0, none⟩ = some (.int .i64 0) := blk_cellv (HS.out.at1) 0 rfl; have hz1524 : w1521.frozen? ⟨g1520, 0, none⟩ = false := blk_fz (HS.out.at1) 0; have hc1525 : w1521.cell? ⟨g1520, 1, none⟩ = some (.int .i64 0) := blk_cellv (HS.out.at1) 1 rfl; have hz1526 : w1521.frozen? ⟨g1520, 1, none⟩ = false := blk_fz (HS.out.at1) 1; have hc1527 : w1521.cell? ⟨g1520, 2, none⟩ = some (.int .i64 0) := blk_cellv (HS.out.at1) 2 rfl; have hz1528 : w1521.frozen? ⟨g1520, 2, none⟩ = false := blk_fz (HS.out.at1) 2; have hc1529 : w1521.cell? ⟨g1520, 3, none⟩ = some (.int .i64 0) := blk_cellv (HS.out.at1) 3 rfl; have hz1530 : w1521.frozen? ⟨g1520, 3, none⟩ = false := blk_fz (HS.out.at1) 3; have hc1531 : w1521.cell? ⟨g1520, 4, none⟩ = some (.int .i64 0) := blk_cellv (HS.out.at1) 4 rfl; have hz1532 : w1521.frozen? ⟨g1520, 4, none⟩ = false := blk_fz (HS.out.at1) 4; have hc1533 : w1521.cell? ⟨g1520, 5, none⟩ = some (.int .i64 0) := blk_cellv (HS.out.at1) 5 rfl; have hz1534 : w1521.frozen? ⟨g1520, 5, none⟩ = false := blk_fz (HS.out.at1) 5; have hc1535 : w1521.cell? ⟨g1520, 6, none⟩ = some (.int .i64 0) := blk_cellv (HS.out.at1) 6 rfl; have hz1536 : w1521.frozen? ⟨g1520, 6, none⟩ = false := blk_fz (HS.out.at1) 6) | ((with_reducible refine gate_store (t := 32) (p := 3) rfl ?_); refine store_event (w1 := (World.setCell (World.setCell (World.setCell (World.setCell (World.setCell (World.setCell (World.setCell w1521 ⟨g1520, 0, none⟩ (.int .i64 (wrap64 (Int.tmod a1516 4)))) ⟨g1520, 1, none⟩ (.int .i64 0)) ⟨g1520, 2, none⟩ (.int .i64 0)) ⟨g1520, 3, none⟩ (.int .i64 0)) ⟨g1520, 4, none⟩ (.int .i64 0)) ⟨g1520, 5, none⟩ (.int .i64 0)) ⟨g1520, 6, none⟩ (.int .i64 0))) rfl (t := 32) (p := 3) rfl rfl ?hr ?_; (case hr => first | (go_simp; done) | (go_simp; rfl)); intro w1537 hst; clear hc1523 hz1524 hc1525 hz1526 hc1527 hz1528 hc1529 hz1530 hc1531 hz1532 hc1533 hz1534 hc1535 hz1536; replace HS : Aside0 (Sep (fps []) w [b1 g1517 0 0 0 0 0 0 0, b1 g1520 (wrap64 (Int.tmod a1516 4)) 0 0 0 0 0 0] w1537) := ⟨by rw [hst]; exact HS.out.setAll (l1 := [b1 g1517 0 0 0 0 0 0 0]) (l2 := []) [.int .i64 (wrap64 (Int.tmod a1516 4)), .int .i64 0, .int .i64 0, .int .i64 0, .int .i64 0, .int .i64 0, .int .i64 0] rfl⟩; clear hst; have hc1538 : w1537.cell? ⟨g1520, 0, none⟩ = some (.int .i64 (wrap64 (Int.tmod a1516 4))) := blk_cellv (HS.out.at1) 0 rfl; have hc1576 : w1537.cell? ⟨g1520, 1, none⟩ = some (.int .i64 0) := blk_cellv (HS.out.at1) 1 rfl; have hz1577 : w1537.frozen? ⟨g1520, 1, none⟩ = false := blk_fz (HS.out.at1) 1) | ((with_reducible refine gate_store (t := 3) (p := 24) rfl ?_); refine store_event (w1 := (World.setCell w1537 ⟨g1520, 1, none⟩ (.int .i64 (((Int.tdiv a1516 4) % 256) % 2)))) rfl (t := 3) (p := 24) rfl rfl ?hr ?_; (case hr => first | (go_simp; done) | (go_simp; rfl)); intro w1578 hst; clear hc1538 hc1576 hz1577; have hq0 : Sep (fps []) w [b1 g1517 0 0 0 0 0 0 0, b1 g1520 (wrap64 (Int.tmod a1516 4)) (((Int.tdiv a1516 4) % 256) % 2) 0 0 0 0 0] (World.setCell w1537 ⟨g1520, 1, none⟩ (.int .i64 (((Int.tdiv a1516 4) % 256) % 2))) := (HS.out).set1 (l1 := [b1 g1517 0 0 0 0 0 0 0]) (l2 := []) 1 (.int .i64 (((Int.tdiv a1516 4) % 256) % 2)); replace HS : Aside0 (Sep (fps []) w [b1 g1517 0 0 0 0 0 0 0, b1 g1520 (wrap64 (Int.tmod a1516 4)) (((Int.tdiv a1516 4) % 256) % 2) 0 0 0 0 0] w1578) := ⟨by rw [hst]; exact hq0⟩; clear hq0; clear hst; have hc1579 : w1578.cell? ⟨g1520, 3, none⟩ = some (.int .i64 0) := blk_cellv (HS.out.at1) 3 rfl; have hz1580 : w1578.frozen? ⟨g1520, 3, none⟩ = false := blk_fz (HS.out.at1) 3) | ((with_reducible refine gate_store (t := 3) (p := 25) rfl ?_); refine store_event (w1 := (World.setCell w1578 ⟨g1520, 3, none⟩ (.int .i64 (((Int.tdiv a1516 8) % 256) % 2)))) rfl (t := 3) (p := 25) rfl rfl ?hr ?_; (case hr => first | (go_simp; done) | (go_simp; rfl)); intro w1581 hst; clear hc1579 hz1580; have hq0 : Sep (fps []) w [b1 g1517 0 0 0 0 0 0 0, b1 g1520 (wrap64 (Int.tmod a1516 4)) (((Int.tdiv a1516 4) % 256) % 2) 0 (((Int.tdiv a1516 8) % 256) % 2) 0 0 0] (World.setCell w1578 ⟨g1520, 3, none⟩ (.int .i64 (((Int.tdiv a1516 8) % 256) % 2))) := (HS.out).set1 (l1 := [b1 g1517 0 0 0 0 0 0 0]) (l2 := []) 3 (.int .i64 (((Int.tdiv a1516 8) % 256) % 2)); replace HS : Aside0 (Sep (fps []) w [b1 g1517 0 0 0 0 0 0 0, b1 g1520 (wrap64 (Int.tmod a1516 4)) (((Int.tdiv a1516 4) % 256) % 2) 0 (((Int.tdiv a1516 8) % 256) % 2) 0 0 0] w1581) := ⟨by rw [hst]; exact hq0⟩; clear hq0; clear hst; have hc1582 : w1581.cell? ⟨g1520, 0, none⟩ = some (.int .i64 (wrap64 (Int.tmod a1516 4))) := blk_cellv (HS.out.at1) 0 rfl; have hc1583 : w1581.cell? ⟨g1520, 1, none⟩ = some (.int .i64 (((Int.tdiv a1516 4) % 256) % 2)) := blk_cellv (HS.out.at1) 1 rfl; have hc1584 : w1581.cell? ⟨g1520, 2, none⟩ = some (.int .i64 0) := blk_cellv (HS.out.at1) 2 rfl; have hc1585 : w1581.cell? ⟨g1520, 3, none⟩ = some (.int .i64 (((Int.tdiv a1516 8) % 256) % 2)) := blk_cellv (HS.out.at1) 3 rfl; have hc1586 : w1581.cell? ⟨g1520, 4, none⟩ = some (.int .i64 0) := blk_cellv (HS.out.at1) 4 rfl; have hc1587 : w1581.cell? ⟨g1520, 5, none⟩ = some (.int .i64 0) := blk_cellv (HS.out.at1) 5 rfl; have hc1588 : w1581.cell? ⟨g1520, 6, none⟩ = some (.int .i64 0) := blk_cellv (HS.out.at1) 6 rfl; have hc1589 : w1581.cell? ⟨g1517, 0, none⟩ = some (.int .i64 0) := blk_cellv (HS.out.at0) 0 rfl; have hz1590 : w1581.frozen? ⟨g1517, 0, none⟩ = false := blk_fz (HS.out.at0) 0; have hc1591 : w1581.cell? ⟨g1517, 1, none⟩ = some (.int .i64 0) := blk_cellv (HS.out.at0) 1 rfl; have hz1592 : w1581.frozen? ⟨g1517, 1, none⟩ = false := blk_fz (HS.out.at0) 1; have hc1593 : w1581.cell? ⟨g1517, 2, none⟩ = some (.int .i64 0) := blk_cellv (HS.out.at0) 2 rfl; have hz1594 : w1581.frozen? ⟨g1517, 2, none⟩ = false := blk_fz (HS.out.at0) 2; have hc1595 : w1581.cell? ⟨g1517, 3, none⟩ = some (.int .i64 0) := blk_cellv (HS.out.at0) 3 rfl; have hz1596 : w1581.frozen? ⟨g1517, 3, none⟩ = false := blk_fz (HS.out.at0) 3; have hc1597 : w1581.cell? ⟨g1517, 4, none⟩ = some (.int .i64 0) := blk_cellv (HS.out.at0) 4 rfl; have hz1598 : w1581.frozen? ⟨g1517, 4, none⟩ = false := blk_fz (HS.out.at0) 4; have hc1599 : w1581.cell? ⟨g1517, 5, none⟩ = some (.int .i64 0) := blk_cellv (HS.out.at0) 5 rfl; have hz1600 : w1581.frozen? ⟨g1517, 5, none⟩ = false := blk_fz (HS.out.at0) 5; have hc1601 : w1581.cell? ⟨g1517, 6, none⟩ = some (.int .i64 0) := blk_cellv (HS.out.at0) 6 rfl; have hz1602 : w1581.frozen? ⟨g1517, 6, none⟩ = false := blk_fz (HS.out.at0) 6) | ((with_reducible refine gate_store (t := 32) (p := 2) rfl ?_); refine store_event (w1 := (World.setCell (World.setCell (World.setCell (World.setCell (World.setCell (World.setCell (World.setCell w1581 ⟨g1517, 0, none⟩ (.int .i64 (wrap64 (Int.tmod a1516 4)))) ⟨g1517, 1, none⟩ (.int .i64 (((Int.tdiv a1516 4) % 256) % 2))) ⟨g1517, 2, none⟩ (.int .i64 0)) ⟨g1517, 3, none⟩ (.int .i64 (((Int.tdiv a1516 8) % 256) % 2))) ⟨g1517, 4, none⟩ (.int .i64 0)) ⟨g1517, 5, none⟩ (.int .i64 0)) ⟨g1517, 6, none⟩ (.int .i64 0))) rfl (t := 32) (p := 2) rfl rfl ?hr ?_; (case hr => first | (go_simp; done) | (go_simp; rfl)); intro w1603 hst; clear hc1582 hc1583 hc1584 hc1585 hc1586 hc1587 hc1588 hc1589 hz1590 hc1591 hz1592 hc1593 hz1594 hc1595 hz1596 hc1597 hz1598 hc1599 hz1600 hc1601 hz1602; replace HS : Aside0 (Sep (fps []) w [b1 g1517 (wrap64 (Int.tmod a1516 4)) (((Int.tdiv a1516 4) % 256) % 2) 0 (((Int.tdiv a1516 8) % 256) % 2) 0 0 0, b1 g1520 (wrap64 (Int.tmod a1516 4)) (((Int.tdiv a1516 4) % 256) % 2) 0 (((Int.tdiv a1516 8) % 256) % 2) 0 0 0] w1603) := ⟨by rw [hst]; exact HS.out.setAll (l1 := []) (l2 := [b1 g1520 (wrap64 (Int.tmod a1516 4)) (((Int.tdiv a1516 4) % 256) % 2) 0 (((Int.tdiv a1516 8) % 256) % 2) 0 0 0]) [.int .i64 (wrap64 (Int.tmod a1516 4)), .int .i64 (((Int.tdiv a1516 4) % 256) % 2), .int .i64 0, .int .i64 (((Int.tdiv a1516 8) % 256) % 2), .int .i64 0, .int .i64 0, .int .i64 0] rfl⟩; clear hst; replace HS : Aside0 (Sep (fps []) w [b1 g1517 (wrap64 (Int.tmod a1516 4)) (((Int.tdiv a1516 4) % 256) % 2) 0 (((Int.tdiv a1516 8) % 256) % 2) 0 0 0] w1603) := ⟨HS.out.sub (.cons_cons _ (.cons _ .slnil))⟩))
      have hc1604 : w1603.cell? ⟨g1517, 0, none⟩ = some (.int .i64 (wrap64 (Int.tmod a1516 4))) := blk_cellv (HS.out.at0) 0 rfl
      have hc1605 : w1603.cell? ⟨g1517, 1, none⟩ = some (.int .i64 (((Int.tdiv a1516 4) % 256) % 2)) := blk_cellv (HS.out.at0) 1 rfl
      have hc1606 : w1603.cell? ⟨g1517, 2, none⟩ = some (.int .i64 0) := blk_cellv (HS.out.at0) 2 rfl
      have hc1607 : w1603.cell? ⟨g1517, 3, none⟩ = some (.int .i64 (((Int.tdiv a1516 8) % 256) % 2)) := blk_cellv (HS.out.at0) 3 rfl
      have hc1608 : w1603.cell? ⟨g1517, 4, none⟩ = some (.int .i64 0) := blk_cellv (HS.out.at0) 4 rfl
      have hc1609 : w1603.cell? ⟨g1517, 5, none⟩ = some (.int .i64 0) := blk_cellv (HS.out.at0) 5 rfl
      have hc1610 : w1603.cell? ⟨g1517, 6, none⟩ = some (.int .i64 0) := blk_cellv (HS.out.at0) 6 rfl
      refine bodyPost_ret (v := .agg #[.int .i64 (wrap64 (Int.tmod a1516 4)), .int .i64 (((Int.tdiv a1516 4) % 256) % 2), .int .i64 0, .int .i64 (((Int.tdiv a1516 8) % 256) % 2), .int .i64 0, .int .i64 0, .int .i64 0]) (by simp [results, Tryd.results78, go_sem, hc1604, hc1605, hc1606, hc1607, hc1608, hc1609, hc1610]) rfl ?_
      rw [← some_eq H]
      exact ⟨(by first | rfl | (simp [IntKind.wrap_u32]; done)), (HS.out).keep (l := []) (rest := [b1 g1517 (wrap64 (Int.tmod a1516 4)) (((Int.tdiv a1516 4) % 256) % 2) 0 (((Int.tdiv a1516 8) % 256) % 2) 0 0 0])⟩
    · have H := if_no c1575 H
      have c1575b0 : ((wrap64 (Int.tmod a1516 4)) == 2) = false := beq_eq_false_iff_ne.mpr c1575
      have c1575b1 : ((wrap64 (Int.tmod a1516 4)) != 2) = true := bne_iff_ne.mpr c1575
      clear c1575
      go_wp2_with (first | ((with_reducible refine gate_dst (N := 2) rfl ?_); refine box_on ?hg (N := 2) ?hd (cs := #[.int .i64 0, .int .i64 0, .int .i64 0, .int .i64 0, .int .i64 0, .int .i64 0, .int .i64 0]) (t := 32) ?hr ?_; (case hd => rfl); (case hg => rfl); (case hr => first | (go_simp; done) | (go_simp; rfl)); intro g1517 hg w1518 hbox hb; replace HS : Aside0 (Sep (fps []) w [b1 g1517 0 0 0 0 0 0 0] w1518) := ⟨HS.out.box hg hbox hb⟩; clear hg hbox hb) | ((with_reducible refine gate_dst (N := 3) rfl ?_); refine box_on ?hg (N := 3) ?hd (cs := #[.int .i64 0, .int .i64 0, .int .i64 0, .int .i64 0, .int .i64 0, .int .i64 0, .int .i64 0]) (t := 32) ?hr ?_; (case hd => rfl); (case hg => rfl); (case hr => first | (go_simp; done) | (go_simp; rfl)); intro g1520 hg w1521 hbox hb; replace HS : Aside0 (Sep (fps []) w [b1 g1517 0 0 0 0 0 0 0, b1 g1520 0 0 0 0 0 0 0] w1521) := ⟨HS.out.box hg hbox hb⟩; clear hg hbox hb; have hc1523 : w1521.cell? ⟨g1520, 0, none⟩ = some (.int .i64 0) := blk_cellv (HS.out.at1) 0 rfl; have hz1524 : w1521.frozen? ⟨g1520, 0, none⟩ = false := blk_fz (HS.out.at1) 0; have hc1525 : w1521.cell? ⟨g1520, 1, none⟩ = some (.int .i64 0) := blk_cellv (HS.out.at1) 1 rfl; have hz1526 : w1521.frozen? ⟨g1520, 1, none⟩ = false := blk_fz (HS.out.at1) 1; have hc1527 : w1521.cell? ⟨g1520, 2, none⟩ = some (.int .i64 0) := blk_cellv (HS.out.at1) 2 rfl; have hz1528 : w1521.frozen? ⟨g1520, 2, none⟩ = false := blk_fz (HS.out.at1) 2; have hc1529 : w1521.cell? ⟨g1520, 3, none⟩ = some (.int .i64 0) := blk_cellv (HS.out.at1) 3 rfl; have hz1530 : w1521.frozen? ⟨g1520, 3, none⟩ = false := blk_fz (HS.out.at1) 3; have hc1531 : w1521.cell? ⟨g1520, 4, none⟩ = some (.int .i64 0) := blk_cellv (HS.out.at1) 4 rfl; have hz1532 : w1521.frozen? ⟨g1520, 4, none⟩ = false := blk_fz (HS.out.at1) 4; have hc1533 : w1521.cell? ⟨g1520, 5, none⟩ = some (.int .i64 0) := blk_cellv (HS.out.at1) 5 rfl; have hz1534 : w1521.frozen? ⟨g1520, 5, none⟩ = false := blk_fz (HS.out.at1) 5; have hc1535 : w1521.cell? ⟨g1520, 6, none⟩ = some (.int .i64 0) := blk_cellv (HS.out.at1) 6 rfl; have hz1536 : w1521.frozen? ⟨g1520, 6, none⟩ = false := blk_fz (HS.out.at1) 6) | ((with_reducible refine gate_store (t := 32) (p := 3) rfl ?_); refine store_event (w1 := (World.setCell (World.setCell (World.setCell (World.setCell (World.setCell (World.setCell (World.setCell w1521 ⟨g1520, 0, none⟩ (.int .i64 (wrap64 (Int.tmod a1516 4)))) ⟨g1520, 1, none⟩ (.int .i64 0)) ⟨g1520, 2, none⟩ (.int .i64 0)) ⟨g1520, 3, none⟩ (.int .i64 0)) ⟨g1520, 4, none⟩ (.int .i64 0)) ⟨g1520, 5, none⟩ (.int .i64 0)) ⟨g1520, 6, none⟩ (.int .i64 0))) rfl (t := 32) (p := 3) rfl rfl ?hr ?_; (case hr => first | (go_simp; done) | (go_simp; rfl)); intro w1537 hst; clear hc1523 hz1524 hc1525 hz1526 hc1527 hz1528 hc1529 hz1530 hc1531 hz1532 hc1533 hz1534 hc1535 hz1536; replace HS : Aside0 (Sep (fps []) w [b1 g1517 0 0 0 0 0 0 0, b1 g1520 (wrap64 (Int.tmod a1516 4)) 0 0 0 0 0 0] w1537) := ⟨by rw [hst]; exact HS.out.setAll (l1 := [b1 g1517 0 0 0 0 0 0 0]) (l2 := []) [.int .i64 (wrap64 (Int.tmod a1516 4)), .int .i64 0, .int .i64 0, .int .i64 0, .int .i64 0, .int .i64 0, .int .i64 0] rfl⟩; clear hst; have hc1538 : w1537.cell? ⟨g1520, 0, none⟩ = some (.int .i64 (wrap64 (Int.tmod a1516 4))) := blk_cellv (HS.out.at1) 0 rfl; have hc1611 : w1537.cell? ⟨g1520, 1, none⟩ = some (.int .i64 0) := blk_cellv (HS.out.at1) 1 rfl; have hc1612 : w1537.cell? ⟨g1520, 2, none⟩ = some (.int .i64 0) := blk_cellv (HS.out.at1) 2 rfl; have hc1613 : w1537.cell? ⟨g1520, 3, none⟩ = some (.int .i64 0) := blk_cellv (HS.out.at1) 3 rfl; have hc1614 : w1537.cell? ⟨g1520, 4, none⟩ = some (.int .i64 0) := blk_cellv (HS.out.at1) 4 rfl; have hc1615 : w1537.cell? ⟨g1520, 5, none⟩ = some (.int .i64 0) := blk_cellv (HS.out.at1) 5 rfl; have hc1616 : w1537.cell? ⟨g1520, 6, none⟩ = some (.int .i64 0) := blk_cellv (HS.out.at1) 6 rfl; have hc1617 : w1537.cell? ⟨g1517, 0, none⟩ = some (.int .i64 0) := blk_cellv (HS.out.at0) 0 rfl; have hz1618 : w1537.frozen? ⟨g1517, 0, none⟩ = false := blk_fz (HS.out.at0) 0; have hc1619 : w1537.cell? ⟨g1517, 1, none⟩ = some (.int .i64 0) := blk_cellv (HS.out.at0) 1 rfl; have hz1620 : w1537.frozen? ⟨g1517, 1, none⟩ = false := blk_fz (HS.out.at0) 1; have hc1621 : w1537.cell? ⟨g1517, 2, none⟩ = some (.int .i64 0) := blk_cellv (HS.out.at0) 2 rfl; have hz1622 : w1537.frozen? ⟨g1517, 2, none⟩ = false := blk_fz (HS.out.at0) 2; have hc1623 : w1537.cell? ⟨g1517, 3, none⟩ = some (.int .i64 0) := blk_cellv (HS.out.at0) 3 rfl; have hz1624 : w1537.frozen? ⟨g1517, 3, none⟩ = false := blk_fz (HS.out.at0) 3; have hc1625 : w1537.cell? ⟨g1517, 4, none⟩ = some (.int .i64 0) := blk_cellv (HS.out.at0) 4 rfl; have hz1626 : w1537.frozen? ⟨g1517, 4, none⟩ = false := blk_fz (HS.out.at0) 4; have hc1627 : w1537.cell? ⟨g1517, 5, none⟩ = some (.int .i64 0) := blk_cellv (HS.out.at0) 5 rfl; have hz1628 : w1537.frozen? ⟨g1517, 5, none⟩ = false := blk_fz (HS.out.at0) 5; have hc1629 : w1537.cell? ⟨g1517, 6, none⟩ = some (.int .i64 0) := blk_cellv (HS.out.at0) 6 rfl; have hz1630 : w1537.frozen? ⟨g1517, 6, none⟩ = false := blk_fz (HS.out.at0) 6) | ((with_reducible refine gate_store (t := 32) (p := 2) rfl ?_); refine store_event (w1 := (World.setCell (World.setCell (World.setCell (World.setCell (World.setCell (World.setCell (World.setCell w1537 ⟨g1517, 0, none⟩ (.int .i64 (wrap64 (Int.tmod a1516 4)))) ⟨g1517, 1, none⟩ (.int .i64 0)) ⟨g1517, 2, none⟩ (.int .i64 0)) ⟨g1517, 3, none⟩ (.int .i64 0)) ⟨g1517, 4, none⟩ (.int .i64 0)) ⟨g1517, 5, none⟩ (.int .i64 0)) ⟨g1517, 6, none⟩ (.int .i64 0))) rfl (t := 32) (p := 2) rfl rfl ?hr ?_; (case hr => first | (go_simp; done) | (go_simp; rfl)); intro w1631 hst; clear hc1538 hc1611 hc1612 hc1613 hc1614 hc1615 hc1616 hc1617 hz1618 hc1619 hz1620 hc1621 hz1622 hc1623 hz1624 hc1625 hz1626 hc1627 hz1628 hc1629 hz1630; replace HS : Aside0 (Sep (fps []) w [b1 g1517 (wrap64 (Int.tmod a1516 4)) 0 0 0 0 0 0, b1 g1520 (wrap64 (Int.tmod a1516 4)) 0 0 0 0 0 0] w1631) := ⟨by rw [hst]; exact HS.out.setAll (l1 := []) (l2 := [b1 g1520 (wrap64 (Int.tmod a1516 4)) 0 0 0 0 0 0]) [.int .i64 (wrap64 (Int.tmod a1516 4)), .int .i64 0, .int .i64 0, .int .i64 0, .int .i64 0, .int .i64 0, .int .i64 0] rfl⟩; clear hst; replace HS : Aside0 (Sep (fps []) w [b1 g1517 (wrap64 (Int.tmod a1516 4)) 0 0 0 0 0 0] w1631) := ⟨HS.out.sub (.cons_cons _ (.cons _ .slnil))⟩))
      have hc1632 : w1631.cell? ⟨g1517, 0, none⟩ = some (.int .i64 (wrap64 (Int.tmod a1516 4))) := blk_cellv (HS.out.at0) 0 rfl
      have hc1633 : w1631.cell? ⟨g1517, 1, none⟩ = some (.int .i64 0) := blk_cellv (HS.out.at0) 1 rfl
      have hc1634 : w1631.cell? ⟨g1517, 2, none⟩ = some (.int .i64 0) := blk_cellv (HS.out.at0) 2 rfl
      have hc1635 : w1631.cell? ⟨g1517, 3, none⟩ = some (.int .i64 0) := blk_cellv (HS.out.at0) 3 rfl
      have hc1636 : w1631.cell? ⟨g1517, 4, none⟩ = some (.int .i64 0) := blk_cellv (HS.out.at0) 4 rfl
      have hc1637 : w1631.cell? ⟨g1517, 5, none⟩ = some (.int .i64 0) := blk_cellv (HS.out.at0) 5 rfl
      have hc1638 : w1631.cell? ⟨g1517, 6, none⟩ = some (.int .i64 0) := blk_cellv (HS.out.at0) 6 rfl
      refine bodyPost_ret (v := .agg #[.int .i64 (wrap64 (Int.tmod a1516 4)), .int .i64 0, .int .i64 0, .int .i64 0, .int .i64 0, .int .i64 0, .int .i64 0]) (by simp [results, Tryd.results78, go_sem, hc1632, hc1633, hc1634, hc1635, hc1636, hc1637, hc1638]) rfl ?_
      rw [← some_eq H]
      exact ⟨(by first | rfl | (simp [IntKind.wrap_u32]; done)), (HS.out).keep (l := []) (rest := [b1 g1517 (wrap64 (Int.tmod a1516 4)) 0 0 0 0 0 0])⟩

set_option maxHeartbeats 30000000 in
set_option maxRecDepth 100000 in
theorem quitrentref06_Pack.calls (a1642 : Int) (a1643 : Int) (a1644 : Int) (a1645 : Int) (a1646 : Int) (a1647 : Int) (a1648 : Int) (r : Int) (w : World)  (HGl0 : Aside0 (Gl 0 #[.int .i64 0, .int .i64 0, .int .i64 0, .int .i64 0, .int .i64 0] (fps []) w)) (HS : Aside0 (Sep (fps []) w [] w)) (H : Aside0 (quitrentref06_Pack.f a1642 a1643 a1644 a1645 a1646 a1647 a1648 = some r)) :
    Calls Tryd.prog 77 #[.agg #[.int .i64 a1642, .int .i64 a1643, .int .i64 a1644, .int .i64 a1645, .int .i64 a1646, .int .i64 a1647, .int .i64 a1648]] w fun e w' => e = .returned (.int .u32 r) ∧ Sep (fps []) w [] w' := by
  unfold quitrentref06_Pack.f at H
  go_enter Tryd.func77, Tryd.ntmps77
  go_wp2_with (first | ((with_reducible refine gate_dst (N := 1) rfl ?_); refine box_on ?hg (N := 1) ?hd (cs := #[.int .i64 a1642, .int .i64 a1643, .int .i64 a1644, .int .i64 a1645, .int .i64 a1646, .int .i64 a1647, .int .i64 a1648]) (t := 32) ?hr ?_; (case hd => rfl); (case hg => rfl); (case hr => first | (go_simp; done) | (go_simp; rfl)); intro g1649 hg w1650 hbox hb; replace HS : Aside0 (Sep (fps []) w [b1 g1649 a1642 a1643 a1644 a1645 a1646 a1647 a1648] w1650) := ⟨HS.out.box hg hbox hb⟩; clear hg hbox hb; have hc1652 : w1650.cell? ⟨g1649, 0, none⟩ = some (.int .i64 a1642) := blk_cellv (HS.out.at0) 0 rfl; have hc1653 : w1650.cell? ⟨g1649, 1, none⟩ = some (.int .i64 a1643) := blk_cellv (HS.out.at0) 1 rfl; have hc1654 : w1650.cell? ⟨g1649, 2, none⟩ = some (.int .i64 a1644) := blk_cellv (HS.out.at0) 2 rfl; have hc1655 : w1650.cell? ⟨g1649, 3, none⟩ = some (.int .i64 a1645) := blk_cellv (HS.out.at0) 3 rfl; have hc1656 : w1650.cell? ⟨g1649, 4, none⟩ = some (.int .i64 a1646) := blk_cellv (HS.out.at0) 4 rfl; have hc1657 : w1650.cell? ⟨g1649, 5, none⟩ = some (.int .i64 a1647) := blk_cellv (HS.out.at0) 5 rfl; have hc1658 : w1650.cell? ⟨g1649, 6, none⟩ = some (.int .i64 a1648) := blk_cellv (HS.out.at0) 6 rfl; replace HS : Aside0 (Sep (fps []) w [] w1650) := ⟨HS.out.sub (.cons _ .slnil)⟩))
  clear hc1652 hc1653 hc1654 hc1655 hc1656 hc1657 hc1658
  go_ret
  rw [← some_eq H]
  exact ⟨(by first | rfl | (simp [IntKind.wrap_u32]; done)), (HS.out).keep (l := []) (rest := [])⟩

set_option maxHeartbeats 30000000 in
set_option maxRecDepth 100000 in
theorem ground_Ground_all.calls (l1685 : List Int) (a1690 : Int) (a1691 : Int) (a1692 : Int) (a1693 : Int) (a1694 : Int) (g1681 : Nat) (g1683 : Nat) (A1686 : Option Addr) (m1687 : Nat) (n1688 : Nat) (r : Unit) (w : World)  (HGl0 : Aside0 (Gl 0 #[.int .i64 0, .int .i64 0, .int .i64 0, .int .i64 0, .int .i64 0] (fps [b14 g1681 g1683 a1691 a1692 a1693 a1694, b13 g1683 A1686 m1687 n1688 a1690, r4 A1686 m1687 n1688 l1685]) w)) (HS : Aside0 (Sep (fps [b14 g1681 g1683 a1691 a1692 a1693 a1694, b13 g1683 A1686 m1687 n1688 a1690, r4 A1686 m1687 n1688 l1685]) w [b14 g1681 g1683 a1691 a1692 a1693 a1694, b13 g1683 A1686 m1687 n1688 a1690, r4 A1686 m1687 n1688 l1685] w)) (H : Aside0 (ground_Ground_all.f l1685 a1690 a1691 a1692 a1693 a1694 = some r)) :
    Calls Tryd.prog 70 #[.pointer (some ⟨g1681, 0, none⟩)] w fun e w' => e = .returned (.pointer (some ⟨g1683, 0, none⟩)) ∧ Sep (fps [b14 g1681 g1683 a1691 a1692 a1693 a1694, b13 g1683 A1686 m1687 n1688 a1690, r4 A1686 m1687 n1688 l1685]) w [b14 g1681 g1683 a1691 a1692 a1693 a1694, b13 g1683 A1686 m1687 n1688 a1690, r4 A1686 m1687 n1688 l1685] w' := by
  generalize (fps [b14 g1681 g1683 a1691 a1692 a1693 a1694, b13 g1683 A1686 m1687 n1688 a1690, r4 A1686 m1687 n1688 l1685]) = FF at HS HGl0 ⊢
  obtain rfl := (row_len (HS.out.at2)).symm
  unfold ground_Ground_all.f at H
  go_enter Tryd.func70, Tryd.ntmps70
  have hc1695 : w.cell? ⟨g1681, 0, none⟩ = some (.pointer (some ⟨g1683, 0, none⟩)) := blk_cellv (HS.out.at0) 0 rfl
  go_wp2_with fail
  clear hc1695
  go_ret
  clear H
  exact ⟨(by first | rfl | (simp [IntKind.wrap_u32]; done)), ((((HS.out).front 2 (by simp)).front 2 (by simp)).front 2 (by simp)).keep (l := [b14 g1681 g1683 a1691 a1692 a1693 a1694, b13 g1683 A1686 l1685.length n1688 a1690, r4 A1686 l1685.length n1688 l1685]) (rest := [])⟩

set_option maxHeartbeats 30000000 in
set_option maxRecDepth 100000 in
theorem ground_Ground_Conf.calls (l1721 : List Int) (a1726 : Int) (a1727 : Int) (a1728 : Int) (a1729 : Int) (a1730 : Int) (g1717 : Nat) (g1719 : Nat) (A1722 : Option Addr) (m1723 : Nat) (n1724 : Nat) (r : Int × Int × Int × Int) (w : World)  (HGl0 : Aside0 (Gl 0 #[.int .i64 0, .int .i64 0, .int .i64 0, .int .i64 0, .int .i64 0] (fps [b14 g1717 g1719 a1727 a1728 a1729 a1730, b13 g1719 A1722 m1723 n1724 a1726, r4 A1722 m1723 n1724 l1721]) w)) (HS : Aside0 (Sep (fps [b14 g1717 g1719 a1727 a1728 a1729 a1730, b13 g1719 A1722 m1723 n1724 a1726, r4 A1722 m1723 n1724 l1721]) w [b14 g1717 g1719 a1727 a1728 a1729 a1730, b13 g1719 A1722 m1723 n1724 a1726, r4 A1722 m1723 n1724 l1721] w)) (H : Aside0 (ground_Ground_Conf.f l1721 a1726 a1727 a1728 a1729 a1730 = some r)) :
    Calls Tryd.prog 86 #[.pointer (some ⟨g1717, 0, none⟩)] w fun e w' => e = .returned (.agg #[.int .i64 r.1, .int .i64 r.2.1, .int .i64 r.2.2.1, .int .i64 r.2.2.2]) ∧ Sep (fps [b14 g1717 g1719 a1727 a1728 a1729 a1730, b13 g1719 A1722 m1723 n1724 a1726, r4 A1722 m1723 n1724 l1721]) w [b14 g1717 g1719 a1727 a1728 a1729 a1730, b13 g1719 A1722 m1723 n1724 a1726, r4 A1722 m1723 n1724 l1721] w' := by
  generalize (fps [b14 g1717 g1719 a1727 a1728 a1729 a1730, b13 g1719 A1722 m1723 n1724 a1726, r4 A1722 m1723 n1724 l1721]) = FF at HS HGl0 ⊢
  obtain rfl := (row_len (HS.out.at2)).symm
  unfold ground_Ground_Conf.f at H
  go_enter Tryd.func86, Tryd.ntmps86
  go_wp2_with (first | ((with_reducible refine gate_dst (N := 2) rfl ?_); refine box_on ?hg (N := 2) ?hd (cs := #[.int .i64 0, .int .i64 0, .int .i64 0, .int .i64 0]) (t := 30) ?hr ?_; (case hd => rfl); (case hg => rfl); (case hr => first | (go_simp; done) | (go_simp; rfl)); intro g1731 hg w1732 hbox hb; replace HS : Aside0 (Sep FF w [b14 g1717 g1719 a1727 a1728 a1729 a1730, b13 g1719 A1722 l1721.length n1724 a1726, r4 A1722 l1721.length n1724 l1721, b7 g1731 0 0 0 0] w1732) := ⟨HS.out.box hg hbox hb⟩; clear hg hbox hb; have hc1734 : w1732.cell? ⟨g1717, 1, none⟩ = some (.int .i64 a1727) := blk_cellv (HS.out.at0) 1 rfl; have hc1735 : w1732.cell? ⟨g1717, 2, none⟩ = some (.int .i64 a1728) := blk_cellv (HS.out.at0) 2 rfl; have hc1736 : w1732.cell? ⟨g1717, 3, none⟩ = some (.int .i64 a1729) := blk_cellv (HS.out.at0) 3 rfl; have hc1737 : w1732.cell? ⟨g1717, 4, none⟩ = some (.int .i64 a1730) := blk_cellv (HS.out.at0) 4 rfl; have hc1738 : w1732.cell? ⟨g1731, 0, none⟩ = some (.int .i64 0) := blk_cellv (HS.out.at3) 0 rfl; have hz1739 : w1732.frozen? ⟨g1731, 0, none⟩ = false := blk_fz (HS.out.at3) 0; have hc1740 : w1732.cell? ⟨g1731, 1, none⟩ = some (.int .i64 0) := blk_cellv (HS.out.at3) 1 rfl; have hz1741 : w1732.frozen? ⟨g1731, 1, none⟩ = false := blk_fz (HS.out.at3) 1; have hc1742 : w1732.cell? ⟨g1731, 2, none⟩ = some (.int .i64 0) := blk_cellv (HS.out.at3) 2 rfl; have hz1743 : w1732.frozen? ⟨g1731, 2, none⟩ = false := blk_fz (HS.out.at3) 2; have hc1744 : w1732.cell? ⟨g1731, 3, none⟩ = some (.int .i64 0) := blk_cellv (HS.out.at3) 3 rfl; have hz1745 : w1732.frozen? ⟨g1731, 3, none⟩ = false := blk_fz (HS.out.at3) 3) | ((with_reducible refine gate_store (t := 30) (p := 2) rfl ?_); refine store_event (w1 := (World.setCell (World.setCell (World.setCell (World.setCell w1732 ⟨g1731, 0, none⟩ (.int .i64 a1727)) ⟨g1731, 1, none⟩ (.int .i64 a1728)) ⟨g1731, 2, none⟩ (.int .i64 a1729)) ⟨g1731, 3, none⟩ (.int .i64 a1730))) rfl (t := 30) (p := 2) rfl rfl ?hr ?_; (case hr => first | (go_simp; done) | (go_simp; rfl)); intro w1746 hst; clear hc1734 hc1735 hc1736 hc1737 hc1738 hz1739 hc1740 hz1741 hc1742 hz1743 hc1744 hz1745; replace HS : Aside0 (Sep FF w [b14 g1717 g1719 a1727 a1728 a1729 a1730, b13 g1719 A1722 l1721.length n1724 a1726, r4 A1722 l1721.length n1724 l1721, b7 g1731 a1727 a1728 a1729 a1730] w1746) := ⟨by rw [hst]; exact HS.out.setAll (l1 := [b14 g1717 g1719 a1727 a1728 a1729 a1730, b13 g1719 A1722 l1721.length n1724 a1726, r4 A1722 l1721.length n1724 l1721]) (l2 := []) [.int .i64 a1727, .int .i64 a1728, .int .i64 a1729, .int .i64 a1730] rfl⟩; clear hst))
  have hc1747 : w1746.cell? ⟨g1731, 0, none⟩ = some (.int .i64 a1727) := blk_cellv (HS.out.at3) 0 rfl
  have hc1748 : w1746.cell? ⟨g1731, 1, none⟩ = some (.int .i64 a1728) := blk_cellv (HS.out.at3) 1 rfl
  have hc1749 : w1746.cell? ⟨g1731, 2, none⟩ = some (.int .i64 a1729) := blk_cellv (HS.out.at3) 2 rfl
  have hc1750 : w1746.cell? ⟨g1731, 3, none⟩ = some (.int .i64 a1730) := blk_cellv (HS.out.at3) 3 rfl
  refine bodyPost_ret (v := .agg #[.int .i64 a1727, .int .i64 a1728, .int .i64 a1729, .int .i64 a1730]) (by simp [results, Tryd.results86, go_sem, hc1747, hc1748, hc1749, hc1750]) rfl ?_
  rw [← some_eq H]
  exact ⟨(by first | rfl | (simp [IntKind.wrap_u32]; done)), ((((HS.out).front 2 (by simp)).front 2 (by simp)).front 2 (by simp)).keep (l := [b14 g1717 g1719 a1727 a1728 a1729 a1730, b13 g1719 A1722 l1721.length n1724 a1726, r4 A1722 l1721.length n1724 l1721]) (rest := [b7 g1731 a1727 a1728 a1729 a1730])⟩

set_option maxHeartbeats 30000000 in
set_option maxRecDepth 100000 in
theorem ground_Ground_word.calls (l1704 : List Int) (a1709 : Int) (a1710 : Int) (a1711 : Int) (a1712 : Int) (a1713 : Int) (a1714 : Int) (a1715 : Int) (g1700 : Nat) (g1702 : Nat) (A1705 : Option Addr) (m1706 : Nat) (n1707 : Nat) (r : Int) (w : World)  (HGl0 : Aside0 (Gl 0 #[.int .i64 0, .int .i64 0, .int .i64 0, .int .i64 0, .int .i64 0] (fps [b14 g1700 g1702 a1710 a1711 a1712 a1713, b13 g1702 A1705 m1706 n1707 a1709, r4 A1705 m1706 n1707 l1704]) w)) (HS : Aside0 (Sep (fps [b14 g1700 g1702 a1710 a1711 a1712 a1713, b13 g1702 A1705 m1706 n1707 a1709, r4 A1705 m1706 n1707 l1704]) w [b14 g1700 g1702 a1710 a1711 a1712 a1713, b13 g1702 A1705 m1706 n1707 a1709, r4 A1705 m1706 n1707 l1704] w)) (H : Aside0 (ground_Ground_word.f l1704 a1709 a1710 a1711 a1712 a1713 a1714 a1715 = some r)) :
    Calls Tryd.prog 72 #[.pointer (some ⟨g1700, 0, none⟩), .int .i64 a1714, .int .i64 a1715] w fun e w' => e = .returned (.int .i64 r) ∧ Sep (fps [b14 g1700 g1702 a1710 a1711 a1712 a1713, b13 g1702 A1705 m1706 n1707 a1709, r4 A1705 m1706 n1707 l1704]) w [b14 g1700 g1702 a1710 a1711 a1712 a1713, b13 g1702 A1705 m1706 n1707 a1709, r4 A1705 m1706 n1707 l1704] w' := by
  generalize (fps [b14 g1700 g1702 a1710 a1711 a1712 a1713, b13 g1702 A1705 m1706 n1707 a1709, r4 A1705 m1706 n1707 l1704]) = FF at HS HGl0 ⊢
  obtain rfl := (row_len (HS.out.at2)).symm
  unfold ground_Ground_word.f at H
  go_enter Tryd.func72, Tryd.ntmps72
  go_wp2_with fail
  obtain ⟨t1751, HA1752, H⟩ := bind_some H
  refine (ground_Ground_Conf.calls l1704 a1709 a1710 a1711 a1712 a1713 g1700 g1702 A1705 l1704.length n1707 t1751 _ ⟨Gl.pass (l := [b14 g1700 g1702 a1710 a1711 a1712 a1713, b13 g1702 A1705 l1704.length n1707 a1709, r4 A1705 l1704.length n1707 l1704]) (rest := []) HGl0.out HS.out⟩ ⟨HS.out.begin (l := [b14 g1700 g1702 a1710 a1711 a1712 a1713, b13 g1702 A1705 l1704.length n1707 a1709, r4 A1705 l1704.length n1707 l1704]) (rest := [])⟩ HA1752).mono ?_
  rintro e_ w1753 ⟨rfl, hS⟩
  replace HS : Aside0 (Sep FF w [b14 g1700 g1702 a1710 a1711 a1712 a1713, b13 g1702 A1705 l1704.length n1707 a1709, r4 A1705 l1704.length n1707 l1704] w1753) := ⟨HS.out.call (l := [b14 g1700 g1702 a1710 a1711 a1712 a1713, b13 g1702 A1705 l1704.length n1707 a1709, r4 A1705 l1704.length n1707 l1704]) (rest := []) hS⟩
  clear hS
  go_wp2_with (first | ((with_reducible refine gate_dst (N := 7) rfl ?_); refine box_on ?hg (N := 7) ?hd (cs := #[.int .i64 0, .int .i64 0, .int .i64 0, .int .i64 0]) (t := 30) ?hr ?_; (case hd => rfl); (case hg => rfl); (case hr => first | (go_simp; done) | (go_simp; rfl)); intro g1754 hg w1755 hbox hb; replace HS : Aside0 (Sep FF w [b14 g1700 g1702 a1710 a1711 a1712 a1713, b13 g1702 A1705 l1704.length n1707 a1709, r4 A1705 l1704.length n1707 l1704, b7 g1754 0 0 0 0] w1755) := ⟨HS.out.box hg hbox hb⟩; clear hg hbox hb; have hc1757 : w1755.cell? ⟨g1754, 0, none⟩ = some (.int .i64 0) := blk_cellv (HS.out.at3) 0 rfl; have hz1758 : w1755.frozen? ⟨g1754, 0, none⟩ = false := blk_fz (HS.out.at3) 0; have hc1759 : w1755.cell? ⟨g1754, 1, none⟩ = some (.int .i64 0) := blk_cellv (HS.out.at3) 1 rfl; have hz1760 : w1755.frozen? ⟨g1754, 1, none⟩ = false := blk_fz (HS.out.at3) 1; have hc1761 : w1755.cell? ⟨g1754, 2, none⟩ = some (.int .i64 0) := blk_cellv (HS.out.at3) 2 rfl; have hz1762 : w1755.frozen? ⟨g1754, 2, none⟩ = false := blk_fz (HS.out.at3) 2; have hc1763 : w1755.cell? ⟨g1754, 3, none⟩ = some (.int .i64 0) := blk_cellv (HS.out.at3) 3 rfl; have hz1764 : w1755.frozen? ⟨g1754, 3, none⟩ = false := blk_fz (HS.out.at3) 3) | ((with_reducible refine gate_store (t := 30) (p := 7) rfl ?_); refine store_event (w1 := (World.setCell (World.setCell (World.setCell (World.setCell w1755 ⟨g1754, 0, none⟩ (.int .i64 t1751.1)) ⟨g1754, 1, none⟩ (.int .i64 t1751.2.1)) ⟨g1754, 2, none⟩ (.int .i64 t1751.2.2.1)) ⟨g1754, 3, none⟩ (.int .i64 t1751.2.2.2))) rfl (t := 30) (p := 7) rfl rfl ?hr ?_; (case hr => first | (go_simp; done) | (go_simp; rfl)); intro w1765 hst; clear hc1757 hz1758 hc1759 hz1760 hc1761 hz1762 hc1763 hz1764; replace HS : Aside0 (Sep FF w [b14 g1700 g1702 a1710 a1711 a1712 a1713, b13 g1702 A1705 l1704.length n1707 a1709, r4 A1705 l1704.length n1707 l1704, b7 g1754 t1751.1 t1751.2.1 t1751.2.2.1 t1751.2.2.2] w1765) := ⟨by rw [hst]; exact HS.out.setAll (l1 := [b14 g1700 g1702 a1710 a1711 a1712 a1713, b13 g1702 A1705 l1704.length n1707 a1709, r4 A1705 l1704.length n1707 l1704]) (l2 := []) [.int .i64 t1751.1, .int .i64 t1751.2.1, .int .i64 t1751.2.2.1, .int .i64 t1751.2.2.2] rfl⟩; clear hst; have hc1766 : w1765.cell? ⟨g1754, 0, none⟩ = some (.int .i64 t1751.1) := blk_cellv (HS.out.at3) 0 rfl))
  clear hc1766
  obtain ⟨t1767, HA1768, H⟩ := bind_some H
  refine (ground_within.calls a1714 t1751.1 0 t1767 _ ⟨Gl.pass (l := []) (rest := [b14 g1700 g1702 a1710 a1711 a1712 a1713, b13 g1702 A1705 l1704.length n1707 a1709, r4 A1705 l1704.length n1707 l1704, b7 g1754 t1751.1 t1751.2.1 t1751.2.2.1 t1751.2.2.2]) HGl0.out HS.out⟩ ⟨HS.out.begin (l := []) (rest := [b14 g1700 g1702 a1710 a1711 a1712 a1713, b13 g1702 A1705 l1704.length n1707 a1709, r4 A1705 l1704.length n1707 l1704, b7 g1754 t1751.1 t1751.2.1 t1751.2.2.1 t1751.2.2.2])⟩ HA1768).mono ?_
  rintro e_ w1769 ⟨rfl, hS⟩
  replace HS : Aside0 (Sep FF w [b14 g1700 g1702 a1710 a1711 a1712 a1713, b13 g1702 A1705 l1704.length n1707 a1709, r4 A1705 l1704.length n1707 l1704, b7 g1754 t1751.1 t1751.2.1 t1751.2.2.1 t1751.2.2.2] w1769) := ⟨HS.out.call (l := []) (rest := [b14 g1700 g1702 a1710 a1711 a1712 a1713, b13 g1702 A1705 l1704.length n1707 a1709, r4 A1705 l1704.length n1707 l1704, b7 g1754 t1751.1 t1751.2.1 t1751.2.2.1 t1751.2.2.2]) hS⟩
  clear hS
  by_cases c1770 : t1767 = (-1)
  · have H := if_yes c1770 H
    have c1770b0 : (t1767 == (-1)) = true := beq_iff_eq.mpr c1770
    have c1770b1 : (t1767 != (-1)) = false := bne_eq_false_iff_eq.mpr c1770
    clear c1770
    replace HS : Aside0 (Sep FF w [b14 g1700 g1702 a1710 a1711 a1712 a1713, b13 g1702 A1705 l1704.length n1707 a1709, r4 A1705 l1704.length n1707 l1704] w1769) := ⟨HS.out.sub (.cons_cons _ (.cons_cons _ (.cons_cons _ (.cons _ .slnil))))⟩
    go_wp2_with fail
    go_ret
    rw [← some_eq H]
    exact ⟨(by first | rfl | (simp [IntKind.wrap_u32]; done)), ((((HS.out).front 2 (by simp)).front 2 (by simp)).front 2 (by simp)).keep (l := [b14 g1700 g1702 a1710 a1711 a1712 a1713, b13 g1702 A1705 l1704.length n1707 a1709, r4 A1705 l1704.length n1707 l1704]) (rest := [])⟩
  · have H := if_no c1770 H
    have c1770b0 : (t1767 == (-1)) = false := beq_eq_false_iff_ne.mpr c1770
    have c1770b1 : (t1767 != (-1)) = true := bne_iff_ne.mpr c1770
    clear c1770
    have hc1771 : w1769.cell? ⟨g1754, 1, none⟩ = some (.int .i64 t1751.2.1) := blk_cellv (HS.out.at3) 1 rfl
    have hc1772 : w1769.cell? ⟨g1754, 2, none⟩ = some (.int .i64 t1751.2.2.1) := blk_cellv (HS.out.at3) 2 rfl
    go_wp2_with fail
    clear hc1771 hc1772
    obtain ⟨t1773, HA1774, H⟩ := bind_some H
    refine (ground_within.calls a1715 t1751.2.1 (wrap64 ((wrap64 (24 + t1751.2.2.1)) + (wrap64 (a1714 * t1751.2.1)))) t1773 _ ⟨Gl.pass (l := []) (rest := [b14 g1700 g1702 a1710 a1711 a1712 a1713, b13 g1702 A1705 l1704.length n1707 a1709, r4 A1705 l1704.length n1707 l1704, b7 g1754 t1751.1 t1751.2.1 t1751.2.2.1 t1751.2.2.2]) HGl0.out HS.out⟩ ⟨HS.out.begin (l := []) (rest := [b14 g1700 g1702 a1710 a1711 a1712 a1713, b13 g1702 A1705 l1704.length n1707 a1709, r4 A1705 l1704.length n1707 l1704, b7 g1754 t1751.1 t1751.2.1 t1751.2.2.1 t1751.2.2.2])⟩ HA1774).mono ?_
    rintro e_ w1775 ⟨rfl, hS⟩
    replace HS : Aside0 (Sep FF w [b14 g1700 g1702 a1710 a1711 a1712 a1713, b13 g1702 A1705 l1704.length n1707 a1709, r4 A1705 l1704.length n1707 l1704, b7 g1754 t1751.1 t1751.2.1 t1751.2.2.1 t1751.2.2.2] w1775) := ⟨HS.out.call (l := []) (rest := [b14 g1700 g1702 a1710 a1711 a1712 a1713, b13 g1702 A1705 l1704.length n1707 a1709, r4 A1705 l1704.length n1707 l1704, b7 g1754 t1751.1 t1751.2.1 t1751.2.2.1 t1751.2.2.2]) hS⟩
    clear hS
    replace HS : Aside0 (Sep FF w [b14 g1700 g1702 a1710 a1711 a1712 a1713, b13 g1702 A1705 l1704.length n1707 a1709, r4 A1705 l1704.length n1707 l1704] w1775) := ⟨HS.out.sub (.cons_cons _ (.cons_cons _ (.cons_cons _ (.cons _ .slnil))))⟩
    go_wp2_with fail
    go_ret
    rw [← some_eq H]
    exact ⟨(by first | rfl | (simp [IntKind.wrap_u32]; done)), ((((HS.out).front 2 (by simp)).front 2 (by simp)).front 2 (by simp)).keep (l := [b14 g1700 g1702 a1710 a1711 a1712 a1713, b13 g1702 A1705 l1704.length n1707 a1709, r4 A1705 l1704.length n1707 l1704]) (rest := [])⟩

set_option maxHeartbeats 30000000 in
set_option maxRecDepth 100000 in
theorem store_Store_has.calls (l1793 : List Int) (a1798 : Int) (a1799 : Int) (g1791 : Nat) (A1794 : Option Addr) (m1795 : Nat) (n1796 : Nat) (r : Bool) (w : World)  (HGl0 : Aside0 (Gl 0 #[.int .i64 0, .int .i64 0, .int .i64 0, .int .i64 0, .int .i64 0] (fps [b13 g1791 A1794 m1795 n1796 a1798, r4 A1794 m1795 n1796 l1793]) w)) (HS : Aside0 (Sep (fps [b13 g1791 A1794 m1795 n1796 a1798, r4 A1794 m1795 n1796 l1793]) w [b13 g1791 A1794 m1795 n1796 a1798, r4 A1794 m1795 n1796 l1793] w)) (H : Aside0 (store_Store_has.f l1793 a1798 a1799 = some r)) :
    Calls Tryd.prog 127 #[.pointer (some ⟨g1791, 0, none⟩), .int .i64 a1799] w fun e w' => e = .returned (.bool r) ∧ Sep (fps [b13 g1791 A1794 m1795 n1796 a1798, r4 A1794 m1795 n1796 l1793]) w [b13 g1791 A1794 m1795 n1796 a1798, r4 A1794 m1795 n1796 l1793] w' := by
  generalize (fps [b13 g1791 A1794 m1795 n1796 a1798, r4 A1794 m1795 n1796 l1793]) = FF at HS HGl0 ⊢
  obtain rfl := (row_len (HS.out.at1)).symm
  unfold store_Store_has.f at H
  go_enter Tryd.func127, Tryd.ntmps127
  by_cases c1800 : a1799 ≥ 0
  · have H := if_yes c1800 H
    have c1800b0 : decide (0 ≤ a1799) = true := decide_eq_true c1800
    clear c1800
    have hc1801 : w.cell? ⟨g1791, 0, none⟩ = some (.slice A1794 l1793.length n1796) := blk_cellv (HS.out.at0) 0 rfl
    go_wp2_with fail
    clear hc1801
    go_ret
    rw [← some_eq H]
    exact ⟨(by first | rfl | (simp [IntKind.wrap_u32]; done)), (((HS.out).front 1 (by simp)).front 1 (by simp)).keep (l := [b13 g1791 A1794 l1793.length n1796 a1798, r4 A1794 l1793.length n1796 l1793]) (rest := [])⟩
  · have H := if_no c1800 H
    have c1800b0 : decide (0 ≤ a1799) = false := decide_eq_false c1800
    clear c1800
    go_wp2_with fail
    go_ret
    rw [← some_eq H]
    exact ⟨(by first | rfl | (simp [IntKind.wrap_u32]; done)), (((HS.out).front 1 (by simp)).front 1 (by simp)).keep (l := [b13 g1791 A1794 l1793.length n1796 a1798, r4 A1794 l1793.length n1796 l1793]) (rest := [])⟩

set_option maxHeartbeats 30000000 in
set_option maxRecDepth 100000 in
theorem atomic_Uint64_Add.calls (l1809 : List Int) (a1814 : Int) (a1815 : Int) (g1807 : Nat) (A1810 : Option Addr) (m1811 : Nat) (n1812 : Nat) (r : Int × Int) (w : World)  (HGl0 : Aside0 (Gl 0 #[.int .i64 0, .int .i64 0, .int .i64 0, .int .i64 0, .int .i64 0] (fps [b13 g1807 A1810 m1811 n1812 a1814, r4 A1810 m1811 n1812 l1809]) w)) (HS : Aside0 (Sep (fps [b13 g1807 A1810 m1811 n1812 a1814, r4 A1810 m1811 n1812 l1809]) w [b13 g1807 A1810 m1811 n1812 a1814, r4 A1810 m1811 n1812 l1809] w)) (H : Aside0 (atomic_Uint64_Add.f l1809 a1814 a1815 = some r)) :
    Calls Tryd.prog 128 #[.pointer (some ⟨g1807, 1, none⟩), .int .u64 a1815] w fun e w' => e = .returned (.int .u64 r.1) ∧ Sep (fps [b13 g1807 A1810 m1811 n1812 a1814, r4 A1810 m1811 n1812 l1809]) w [b13 g1807 A1810 m1811 n1812 r.2, r4 A1810 m1811 n1812 l1809] w' := by
  generalize (fps [b13 g1807 A1810 m1811 n1812 a1814, r4 A1810 m1811 n1812 l1809]) = FF at HS HGl0 ⊢
  obtain rfl := (row_len (HS.out.at1)).symm
  unfold atomic_Uint64_Add.f at H
  go_enter Tryd.func128, Tryd.ntmps128
  obtain ⟨y1825, HA1826, H⟩ := bind_some H
  have hc1822 : w.cell? ⟨g1807, 1, none⟩ = some (.int .u64 a1814) := blk_cellv (HS.out.at0) 1 rfl
  have hz1824 : w.frozen? ⟨g1807, 1, none⟩ = false := blk_fz (HS.out.at0) 1
  have hn1823 : (callFunc 153 #[.pointer (some ⟨g1807, 1, none⟩), .int .u64 a1815]).run Tryd.prog w = .ok (.value (.int .u64 y1825)) ((World.setCell w ⟨g1807, 1, none⟩ (.int .u64 y1825))) := (some_eq HA1826) ▸ run_call_add Tryd.func153 (by kernel_rfl) (by kernel_rfl) (by kernel_rfl) .u64 (by kernel_rfl) hc1822 hz1824 (by rfl)
  go_wp2_with (first | ((with_reducible refine gate_dst (N := 9) rfl ?_); refine run_on2 (by rfl) (w1 := (World.setCell w ⟨g1807, 1, none⟩ (.int .u64 y1825))) (v := .int .u64 y1825) ?hr ?_; (case hr => first | (go_simp; done) | (go_simp; rfl)); intro w1827 hst; clear hc1822 hz1824; have hq0 : Sep FF w [b13 g1807 A1810 l1809.length n1812 y1825, r4 A1810 l1809.length n1812 l1809] (World.setCell w ⟨g1807, 1, none⟩ (.int .u64 y1825)) := (HS.out).set1 (l1 := []) (l2 := [r4 A1810 l1809.length n1812 l1809]) 1 (.int .u64 y1825); replace HS : Aside0 (Sep FF w [b13 g1807 A1810 l1809.length n1812 y1825, r4 A1810 l1809.length n1812 l1809] w1827) := ⟨by rw [hst]; exact hq0⟩; clear hst hn1823 hq0))
  go_ret
  rw [← some_eq H]
  exact ⟨(by first | rfl | (simp [IntKind.wrap_u32]; done)), (((HS.out).front 1 (by simp)).front 1 (by simp)).keep (l := [b13 g1807 A1810 l1809.length n1812 y1825, r4 A1810 l1809.length n1812 l1809]) (rest := [])⟩

set_option maxHeartbeats 30000000 in
set_option maxRecDepth 100000 in
theorem store_Store_Put.calls (l1782 : List Int) (a1787 : Int) (a1788 : Int) (a1789 : Int) (g1780 : Nat) (A1783 : Option Addr) (m1784 : Nat) (n1785 : Nat) (r : Bool × Int × List Int) (w : World)  (HGl0 : Aside0 (Gl 0 #[.int .i64 0, .int .i64 0, .int .i64 0, .int .i64 0, .int .i64 0] (fps [b13 g1780 A1783 m1784 n1785 a1787, r4 A1783 m1784 n1785 l1782]) w)) (HS : Aside0 (Sep (fps [b13 g1780 A1783 m1784 n1785 a1787, r4 A1783 m1784 n1785 l1782]) w [b13 g1780 A1783 m1784 n1785 a1787, r4 A1783 m1784 n1785 l1782] w)) (H : Aside0 (store_Store_Put.f l1782 a1787 a1788 a1789 = some r)) :
    Calls Tryd.prog 71 #[.pointer (some ⟨g1780, 0, none⟩), .int .i64 a1788, .int .u32 a1789] w fun e w' => e = .returned (.bool r.1) ∧ Sep (fps [b13 g1780 A1783 m1784 n1785 a1787, r4 A1783 m1784 n1785 l1782]) w [b13 g1780 A1783 m1784 n1785 r.2.1, r4 A1783 m1784 n1785 r.2.2] w' := by
  generalize (fps [b13 g1780 A1783 m1784 n1785 a1787, r4 A1783 m1784 n1785 l1782]) = FF at HS HGl0 ⊢
  obtain rfl := (row_len (HS.out.at1)).symm
  unfold store_Store_Put.f at H
  go_enter Tryd.func71, Tryd.ntmps71
  go_wp2_with fail
  obtain ⟨t1840, HA1841, H⟩ := bind_some H
  refine (store_Store_has.calls l1782 a1787 a1788 g1780 A1783 l1782.length n1785 t1840 _ ⟨Gl.pass (l := [b13 g1780 A1783 l1782.length n1785 a1787, r4 A1783 l1782.length n1785 l1782]) (rest := []) HGl0.out HS.out⟩ ⟨HS.out.begin (l := [b13 g1780 A1783 l1782.length n1785 a1787, r4 A1783 l1782.length n1785 l1782]) (rest := [])⟩ HA1841).mono ?_
  rintro e_ w1842 ⟨rfl, hS⟩
  replace HS : Aside0 (Sep FF w [b13 g1780 A1783 l1782.length n1785 a1787, r4 A1783 l1782.length n1785 l1782] w1842) := ⟨HS.out.call (l := [b13 g1780 A1783 l1782.length n1785 a1787, r4 A1783 l1782.length n1785 l1782]) (rest := []) hS⟩
  clear hS
  by_cases c1843 : t1840 = true
  · have H := if_yes c1843 H
    have c1843b0 : t1840 = true := c1843
    have c1843b1 : (!t1840) = false := by rw [c1843b0]; rfl
    try rw [c1843b1]
    clear c1843
    go_wp2_with fail
    obtain ⟨t1844, HA1845, H⟩ := bind_some H
    refine (atomic_Uint64_Add.calls l1782 a1787 1 g1780 A1783 l1782.length n1785 t1844 _ ⟨Gl.pass (l := [b13 g1780 A1783 l1782.length n1785 a1787, r4 A1783 l1782.length n1785 l1782]) (rest := []) HGl0.out HS.out⟩ ⟨HS.out.begin (l := [b13 g1780 A1783 l1782.length n1785 a1787, r4 A1783 l1782.length n1785 l1782]) (rest := [])⟩ HA1845).mono ?_
    rintro e_ w1846 ⟨rfl, hS⟩
    replace HS : Aside0 (Sep FF w [b13 g1780 A1783 l1782.length n1785 t1844.2, r4 A1783 l1782.length n1785 l1782] w1846) := ⟨HS.out.call (l := [b13 g1780 A1783 l1782.length n1785 a1787, r4 A1783 l1782.length n1785 l1782]) (rest := []) hS⟩
    clear hS
    by_cases c1848 : 0 ≤ a1788
    · have H := if_yes c1848 H
      have c1848b0 : decide (0 ≤ a1788) = true := decide_eq_true c1848
      have c1848p : (0 ≤ a1788) = True := eq_true c1848
      clear c1848
      by_cases c1849 : a1788 < (l1782.length : Int)
      · have H := if_yes c1849 H
        have c1849b0 : decide (a1788 < (l1782.length : Int)) = true := decide_eq_true c1849
        have c1849p : (a1788 < (l1782.length : Int)) = True := eq_true c1849
        clear c1849
        obtain ⟨y1852, HA1853, H⟩ := bind_some H
        have hc1847 : w1846.cell? ⟨g1780, 0, none⟩ = some (.slice A1783 l1782.length n1785) := blk_cellv (HS.out.at0) 0 rfl
        obtain ⟨g1850, ea⟩ := row_at (HS.out.at1) (by have := (of_decide_eq_true c1848b0); have := (of_decide_eq_true c1849b0); omega); cases ea
        have hx1854 := (row_get 0 (HS.out.at1) a1788 (of_decide_eq_true c1848b0) (of_decide_eq_true c1849b0)).1
        have hz1855 := (row_get 0 (HS.out.at1) a1788 (of_decide_eq_true c1848b0) (of_decide_eq_true c1849b0)).2
        go_wp2_with (first | ((with_reducible refine gate_store (t := 33) (p := 21) rfl ?_); refine store_event (w1 := World.setCell w1846 ⟨g1850, (a1788).toNat, none⟩ (.int .u32 a1789)) rfl (t := 33) (p := 21) rfl rfl ?hr ?_; (case hr => first | (go_simp; done) | (go_simp; rfl)); intro w1851 hst; clear hc1847 hx1854 hz1855; have hq := Sep.rowset (l1 := [b13 g1780 (some ⟨g1850, 0, none⟩) l1782.length n1785 t1844.2]) (l2 := []) HS.out a1788 a1789; rw [← hst, some_eq HA1853] at hq; replace HS : Aside0 (Sep FF w [b13 g1780 (some ⟨g1850, 0, none⟩) l1782.length n1785 t1844.2, r4 (some ⟨g1850, 0, none⟩) l1782.length n1785 y1852] w1851) := ⟨hq⟩; clear hst hq))
        go_ret
        rw [← some_eq H]
        exact ⟨(by first | rfl | (simp [IntKind.wrap_u32]; done)), (((HS.out).front 1 (by simp)).front 1 (by simp)).keep (l := [b13 g1780 (some ⟨g1850, 0, none⟩) l1782.length n1785 t1844.2, r4 (some ⟨g1850, 0, none⟩) l1782.length n1785 y1852]) (rest := [])⟩
      · have H := if_no c1849 H
        have c1849b0 : decide (a1788 < (l1782.length : Int)) = false := decide_eq_false c1849
        clear c1849
        exact (none_no H).elim
    · have H := if_no c1848 H
      have c1848b0 : decide (0 ≤ a1788) = false := decide_eq_false c1848
      clear c1848
      exact (none_no H).elim
  · have H := if_no c1843 H
    have c1843b0 : t1840 = false := by simpa using c1843
    have c1843b1 : (!t1840) = true := by rw [c1843b0]; rfl
    try rw [c1843b1]
    clear c1843
    go_wp2_with fail
    go_ret
    rw [← some_eq H]
    exact ⟨(by first | rfl | (simp [IntKind.wrap_u32]; done)), (((HS.out).front 1 (by simp)).front 1 (by simp)).keep (l := [b13 g1780 A1783 l1782.length n1785 a1787, r4 A1783 l1782.length n1785 l1782]) (rest := [])⟩

set_option maxHeartbeats 30000000 in
set_option maxRecDepth 100000 in
theorem ground_Ground_SetWord.calls (l1667 : List Int) (a1672 : Int) (a1673 : Int) (a1674 : Int) (a1675 : Int) (a1676 : Int) (a1677 : Int) (a1678 : Int) (a1679 : Int) (g1663 : Nat) (g1665 : Nat) (A1668 : Option Addr) (m1669 : Nat) (n1670 : Nat) (r : Bool × Int × List Int) (w : World)  (HGl0 : Aside0 (Gl 0 #[.int .i64 0, .int .i64 0, .int .i64 0, .int .i64 0, .int .i64 0] (fps [b14 g1663 g1665 a1673 a1674 a1675 a1676, b13 g1665 A1668 m1669 n1670 a1672, r4 A1668 m1669 n1670 l1667]) w)) (HS : Aside0 (Sep (fps [b14 g1663 g1665 a1673 a1674 a1675 a1676, b13 g1665 A1668 m1669 n1670 a1672, r4 A1668 m1669 n1670 l1667]) w [b14 g1663 g1665 a1673 a1674 a1675 a1676, b13 g1665 A1668 m1669 n1670 a1672, r4 A1668 m1669 n1670 l1667] w)) (H : Aside0 (ground_Ground_SetWord.f l1667 a1672 a1673 a1674 a1675 a1676 a1677 a1678 a1679 = some r)) :
    Calls Tryd.prog 17 #[.pointer (some ⟨g1663, 0, none⟩), .int .i64 a1677, .int .i64 a1678, .int .u32 a1679] w fun e w' => e = .returned (.bool r.1) ∧ Sep (fps [b14 g1663 g1665 a1673 a1674 a1675 a1676, b13 g1665 A1668 m1669 n1670 a1672, r4 A1668 m1669 n1670 l1667]) w [b14 g1663 g1665 a1673 a1674 a1675 a1676, b13 g1665 A1668 m1669 n1670 r.2.1, r4 A1668 m1669 n1670 r.2.2] w' := by
  generalize (fps [b14 g1663 g1665 a1673 a1674 a1675 a1676, b13 g1665 A1668 m1669 n1670 a1672, r4 A1668 m1669 n1670 l1667]) = FF at HS HGl0 ⊢
  obtain rfl := (row_len (HS.out.at2)).symm
  unfold ground_Ground_SetWord.f at H
  go_enter Tryd.func17, Tryd.ntmps17
  go_wp2_with fail
  obtain ⟨t1859, HA1860, H⟩ := bind_some H
  refine (ground_Ground_all.calls l1667 a1672 a1673 a1674 a1675 a1676 g1663 g1665 A1668 l1667.length n1670 t1859 _ ⟨Gl.pass (l := [b14 g1663 g1665 a1673 a1674 a1675 a1676, b13 g1665 A1668 l1667.length n1670 a1672, r4 A1668 l1667.length n1670 l1667]) (rest := []) HGl0.out HS.out⟩ ⟨HS.out.begin (l := [b14 g1663 g1665 a1673 a1674 a1675 a1676, b13 g1665 A1668 l1667.length n1670 a1672, r4 A1668 l1667.length n1670 l1667]) (rest := [])⟩ HA1860).mono ?_
  rintro e_ w1861 ⟨rfl, hS⟩
  replace HS : Aside0 (Sep FF w [b14 g1663 g1665 a1673 a1674 a1675 a1676, b13 g1665 A1668 l1667.length n1670 a1672, r4 A1668 l1667.length n1670 l1667] w1861) := ⟨HS.out.call (l := [b14 g1663 g1665 a1673 a1674 a1675 a1676, b13 g1665 A1668 l1667.length n1670 a1672, r4 A1668 l1667.length n1670 l1667]) (rest := []) hS⟩
  clear hS
  go_wp2_with fail
  obtain ⟨t1862, HA1863, H⟩ := bind_some H
  refine (ground_Ground_word.calls l1667 a1672 a1673 a1674 a1675 a1676 a1677 a1678 g1663 g1665 A1668 l1667.length n1670 t1862 _ ⟨Gl.pass (l := [b14 g1663 g1665 a1673 a1674 a1675 a1676, b13 g1665 A1668 l1667.length n1670 a1672, r4 A1668 l1667.length n1670 l1667]) (rest := []) HGl0.out HS.out⟩ ⟨HS.out.begin (l := [b14 g1663 g1665 a1673 a1674 a1675 a1676, b13 g1665 A1668 l1667.length n1670 a1672, r4 A1668 l1667.length n1670 l1667]) (rest := [])⟩ HA1863).mono ?_
  rintro e_ w1864 ⟨rfl, hS⟩
  replace HS : Aside0 (Sep FF w [b14 g1663 g1665 a1673 a1674 a1675 a1676, b13 g1665 A1668 l1667.length n1670 a1672, r4 A1668 l1667.length n1670 l1667] w1864) := ⟨HS.out.call (l := [b14 g1663 g1665 a1673 a1674 a1675 a1676, b13 g1665 A1668 l1667.length n1670 a1672, r4 A1668 l1667.length n1670 l1667]) (rest := []) hS⟩
  clear hS
  go_wp2_with fail
  replace HS : Aside0 (Sep FF w [r4 A1668 l1667.length n1670 l1667, b14 g1663 g1665 a1673 a1674 a1675 a1676, b13 g1665 A1668 l1667.length n1670 a1672] w1864) := ⟨HS.out.front 2 (by simp)⟩
  replace HS : Aside0 (Sep FF w [b13 g1665 A1668 l1667.length n1670 a1672, r4 A1668 l1667.length n1670 l1667, b14 g1663 g1665 a1673 a1674 a1675 a1676] w1864) := ⟨HS.out.front 2 (by simp)⟩
  obtain ⟨t1865, HA1866, H⟩ := bind_some H
  refine (store_Store_Put.calls l1667 a1672 t1862 a1679 g1665 A1668 l1667.length n1670 t1865 _ ⟨Gl.pass (l := [b13 g1665 A1668 l1667.length n1670 a1672, r4 A1668 l1667.length n1670 l1667]) (rest := [b14 g1663 g1665 a1673 a1674 a1675 a1676]) HGl0.out HS.out⟩ ⟨HS.out.begin (l := [b13 g1665 A1668 l1667.length n1670 a1672, r4 A1668 l1667.length n1670 l1667]) (rest := [b14 g1663 g1665 a1673 a1674 a1675 a1676])⟩ HA1866).mono ?_
  rintro e_ w1867 ⟨rfl, hS⟩
  replace HS : Aside0 (Sep FF w [b13 g1665 A1668 l1667.length n1670 t1865.2.1, r4 A1668 l1667.length n1670 t1865.2.2, b14 g1663 g1665 a1673 a1674 a1675 a1676] w1867) := ⟨HS.out.call (l := [b13 g1665 A1668 l1667.length n1670 a1672, r4 A1668 l1667.length n1670 l1667]) (rest := [b14 g1663 g1665 a1673 a1674 a1675 a1676]) hS⟩
  clear hS
  go_wp2_with fail
  go_ret
  rw [← some_eq H]
  exact ⟨(by first | rfl | (simp [IntKind.wrap_u32]; done)), ((((HS.out).front 1 (by simp)).front 1 (by simp)).front 2 (by simp)).keep (l := [b14 g1663 g1665 a1673 a1674 a1675 a1676, b13 g1665 A1668 l1667.length n1670 t1865.2.1, r4 A1668 l1667.length n1670 t1865.2.2]) (rest := [])⟩

set_option maxHeartbeats 30000000 in
set_option maxRecDepth 100000 in
theorem quitrentlaw09_made.calls (k : Nat) (l698 : List Int) (A699 : Option Addr) (n700 : Nat) (r : Bool ⊕ (Bool × Int × Int × Int × Int × Int × List Int)) (w : World) (HR701 : Aside0 (Rd (Kd.int .u8) (fps []) w A699 l698.length l698)) (HGl0 : Aside0 (Gl 0 #[.int .i64 0, .int .i64 0, .int .i64 0, .int .i64 0, .int .i64 0] (fps []) w)) (HS : Aside0 (Sep (fps []) w [] w)) (H : Aside0 (quitrentlaw09_made.f k l698 = some r)) :
    Calls Tryd.prog 22 #[.slice A699 l698.length n700] w fun e w' => Sum.elim (fun (r : Bool) => e = .returned (.tuple #[.pointer none, .bool r]) ∧ Sep (fps []) w [] w') (fun (r : Bool × Int × Int × Int × Int × Int × List Int) => ∃ (g2029 : Nat), e = .returned (.tuple #[.pointer (some ⟨g2029, 0, none⟩), .bool r.1]) ∧ ∃ (g2030 : Nat) (A2031 : Option Addr) (m2032 : Nat) (n2033 : Nat), Sep (fps []) w [b14 g2029 g2030 r.2.1 r.2.2.1 r.2.2.2.1 r.2.2.2.2.1, b13 g2030 A2031 m2032 n2033 r.2.2.2.2.2.1, r4 A2031 m2032 n2033 r.2.2.2.2.2.2] w') r := by
  unfold quitrentlaw09_made.f at H
  go_enter Tryd.func22, Tryd.ntmps22
  go_wp2_with fail
  obtain ⟨t1890, HA1891, H⟩ := bind_some H
  rcases t1890 with t1892 | (t1893 | t1894)
  · have H := sum_l H
    refine (ground_New.calls _ (l698.length : Int) 16 1 1 (.inl t1892) _ ⟨Gl.pass (l := []) (rest := []) HGl0.out HS.out⟩ ⟨HS.out.begin (l := []) (rest := [])⟩ HA1891).mono ?_
    rintro e_ w1895 ⟨rfl, hS⟩
    replace HS : Aside0 (Sep (fps []) w [] w1895) := ⟨HS.out.call (l := []) (rest := []) hS⟩
    clear hS
    go_wp2_with fail
    go_ret2
    rw [← some_eq H]
    exact ⟨(by first | rfl | (simp [IntKind.wrap_u32]; done)), (HS.out).keep (l := []) (rest := [])⟩
  · have H := sum_r H
    have H := sum_l H
    refine (ground_New.calls _ (l698.length : Int) 16 1 1 (.inr (.inl t1893)) _ ⟨Gl.pass (l := []) (rest := []) HGl0.out HS.out⟩ ⟨HS.out.begin (l := []) (rest := [])⟩ HA1891).mono ?_
    rintro e_ w1896 ⟨g1900, rfl, g1901, A1902, m1903, n1904, hS⟩
    replace HS : Aside0 (Sep (fps []) w [b14 g1900 g1901 t1893.1 t1893.2.1 t1893.2.2.1 t1893.2.2.2.1, b13 g1901 A1902 m1903 n1904 0, r4 A1902 m1903 n1904 t1893.2.2.2.2] w1896) := ⟨HS.out.call (l := []) (rest := []) hS⟩
    clear hS
    obtain rfl := (row_len (HS.out.at2)).symm
    go_wp2_with fail
    obtain ⟨o1944, AL1945, H⟩ := bind_some H
    go_loopg [20] k (fun kq v20 wc => ∃ (x1948 : Int) (x1949 : List Int) (x1950 : Int), v20 = .int .i64 x1948 ∧ Aside0 (quitrentlaw09_made.lo0 kq l698 t1893 x1948 x1949 x1950 = some o1944) ∧ Aside0 (Sep (fps []) w [b14 g1900 g1901 t1893.1 t1893.2.1 t1893.2.2.1 t1893.2.2.2.1, b13 g1901 A1902 ((t1893.2.2.2.2).length) n1904 x1950, r4 A1902 ((t1893.2.2.2.2).length) n1904 x1949] wc))
    case atStart => exact ⟨(0), (t1893.2.2.2.2), (0), (by first | rfl | (simp [IntKind.wrap_u32]; done)), AL1945, ⟨HS.out⟩⟩
    case round =>
      clear AL1945 HS
      obtain ⟨x1948, x1949, x1950, rfl, AL1945, HS⟩ := hrel
      obtain ⟨w1946, rfl⟩ : ∃ x : World, x = wr := ⟨_, rfl⟩
      cases gk with
      | zero => exact absurd AL1945.out (by simp [quitrentlaw09_made.lo0])
      | succ k1947 =>
        have AL0 := AL1945.out
        rw [quitrentlaw09_made.lo0] at AL0
        clear AL1945
        have AL1945 := Aside0.mk AL0
        clear AL0
        by_cases c1951 : x1948 < (l698.length : Int)
        · have AL1945 := if_yes c1951 AL1945
          have c1951b0 : decide (x1948 < (l698.length : Int)) = true := decide_eq_true c1951
          clear c1951
          by_cases c1952 : 0 ≤ x1948
          · have AL1945 := if_yes c1952 AL1945
            have c1952b0 : decide (0 ≤ x1948) = true := decide_eq_true c1952
            have c1952p : (0 ≤ x1948) = True := eq_true c1952
            clear c1952
            have ip1953 : (x1948 < (l698.length : Int)) = True := eq_true (of_decide_eq_true c1951b0)
            obtain ⟨hx1954a, hx1954e, hx1954⟩ := Kd.at_int (Rd.read (fun _ _ _ _ h => h) HR701.out HS.out.fr) x1948 (of_decide_eq_true c1952b0) (of_decide_eq_true c1951b0); cases hx1954e
            go_wp2_with fail
            clear hx1954
            obtain ⟨t1916, HA1955, AL1945⟩ := bind_some AL1945
            refine (quitrentlaw09_tagOf.calls (rd l698 x1948) t1916 _ ⟨Gl.pass (l := []) (rest := [b14 g1900 g1901 t1893.1 t1893.2.1 t1893.2.2.1 t1893.2.2.2.1, b13 g1901 A1902 ((t1893.2.2.2.2).length) n1904 x1950, r4 A1902 ((t1893.2.2.2.2).length) n1904 x1949]) HGl0.out HS.out⟩ ⟨HS.out.begin (l := []) (rest := [b14 g1900 g1901 t1893.1 t1893.2.1 t1893.2.2.1 t1893.2.2.2.1, b13 g1901 A1902 ((t1893.2.2.2.2).length) n1904 x1950, r4 A1902 ((t1893.2.2.2.2).length) n1904 x1949])⟩ HA1955).mono ?_
            rintro e_ w1956 ⟨rfl, hS⟩
            replace HS : Aside0 (Sep (fps []) w [b14 g1900 g1901 t1893.1 t1893.2.1 t1893.2.2.1 t1893.2.2.2.1, b13 g1901 A1902 ((t1893.2.2.2.2).length) n1904 x1950, r4 A1902 ((t1893.2.2.2.2).length) n1904 x1949] w1956) := ⟨HS.out.call (l := []) (rest := [b14 g1900 g1901 t1893.1 t1893.2.1 t1893.2.2.1 t1893.2.2.2.1, b13 g1901 A1902 ((t1893.2.2.2.2).length) n1904 x1950, r4 A1902 ((t1893.2.2.2.2).length) n1904 x1949]) hS⟩
            clear hS
            go_wp2_with fail
            obtain ⟨t1919, HA1957, AL1945⟩ := bind_some AL1945
            refine (quitrentref06_Pack.calls t1916.1 t1916.2.1 t1916.2.2.1 t1916.2.2.2.1 t1916.2.2.2.2.1 t1916.2.2.2.2.2.1 t1916.2.2.2.2.2.2 t1919 _ ⟨Gl.pass (l := []) (rest := [b14 g1900 g1901 t1893.1 t1893.2.1 t1893.2.2.1 t1893.2.2.2.1, b13 g1901 A1902 ((t1893.2.2.2.2).length) n1904 x1950, r4 A1902 ((t1893.2.2.2.2).length) n1904 x1949]) HGl0.out HS.out⟩ ⟨HS.out.begin (l := []) (rest := [b14 g1900 g1901 t1893.1 t1893.2.1 t1893.2.2.1 t1893.2.2.2.1, b13 g1901 A1902 ((t1893.2.2.2.2).length) n1904 x1950, r4 A1902 ((t1893.2.2.2.2).length) n1904 x1949])⟩ HA1957).mono ?_
            rintro e_ w1958 ⟨rfl, hS⟩
            replace HS : Aside0 (Sep (fps []) w [b14 g1900 g1901 t1893.1 t1893.2.1 t1893.2.2.1 t1893.2.2.2.1, b13 g1901 A1902 ((t1893.2.2.2.2).length) n1904 x1950, r4 A1902 ((t1893.2.2.2.2).length) n1904 x1949] w1958) := ⟨HS.out.call (l := []) (rest := [b14 g1900 g1901 t1893.1 t1893.2.1 t1893.2.2.1 t1893.2.2.2.1, b13 g1901 A1902 ((t1893.2.2.2.2).length) n1904 x1950, r4 A1902 ((t1893.2.2.2.2).length) n1904 x1949]) hS⟩
            clear hS
            go_wp2_with fail
            obtain ⟨t1922, HA1959, AL1945⟩ := bind_some AL1945
            refine (ground_Ground_SetWord.calls x1949 x1950 t1893.1 t1893.2.1 t1893.2.2.1 t1893.2.2.2.1 x1948 0 t1919 g1900 g1901 A1902 ((t1893.2.2.2.2).length) n1904 t1922 _ ⟨Gl.pass (l := [b14 g1900 g1901 t1893.1 t1893.2.1 t1893.2.2.1 t1893.2.2.2.1, b13 g1901 A1902 ((t1893.2.2.2.2).length) n1904 x1950, r4 A1902 ((t1893.2.2.2.2).length) n1904 x1949]) (rest := []) HGl0.out HS.out⟩ ⟨HS.out.begin (l := [b14 g1900 g1901 t1893.1 t1893.2.1 t1893.2.2.1 t1893.2.2.2.1, b13 g1901 A1902 ((t1893.2.2.2.2).length) n1904 x1950, r4 A1902 ((t1893.2.2.2.2).length) n1904 x1949]) (rest := [])⟩ HA1959).mono ?_
            rintro e_ w1960 ⟨rfl, hS⟩
            replace HS : Aside0 (Sep (fps []) w [b14 g1900 g1901 t1893.1 t1893.2.1 t1893.2.2.1 t1893.2.2.2.1, b13 g1901 A1902 ((t1893.2.2.2.2).length) n1904 t1922.2.1, r4 A1902 ((t1893.2.2.2.2).length) n1904 t1922.2.2] w1960) := ⟨HS.out.call (l := [b14 g1900 g1901 t1893.1 t1893.2.1 t1893.2.2.1 t1893.2.2.2.1, b13 g1901 A1902 ((t1893.2.2.2.2).length) n1904 x1950, r4 A1902 ((t1893.2.2.2.2).length) n1904 x1949]) (rest := []) hS⟩
            clear hS
            by_cases c1961 : t1922.1 = true
            · have AL1945 := if_yes c1961 AL1945
              have c1961b0 : t1922.1 = true := c1961
              have c1961b1 : (!t1922.1) = false := by rw [c1961b0]; rfl
              try rw [c1961b1]
              clear c1961
              go_wp2_with fail
              go_roundg k1947
              case measure => exact Nat.lt_succ_self _
              case rel => exact ⟨(wrap64 (x1948 + 1)), (t1922.2.2), (t1922.2.1), (by first | rfl | (simp [IntKind.wrap_u32]; done)), Aside0.mk AL1945.out, ⟨((((HS.out).front 2 (by simp)).front 2 (by simp)).front 2 (by simp)).keep (l := [b14 g1900 g1901 t1893.1 t1893.2.1 t1893.2.2.1 t1893.2.2.2.1, b13 g1901 A1902 ((t1893.2.2.2.2).length) n1904 t1922.2.1, r4 A1902 ((t1893.2.2.2.2).length) n1904 t1922.2.2]) (rest := [])⟩⟩
            · have AL1945 := if_no c1961 AL1945
              have c1961b0 : t1922.1 = false := by simpa using c1961
              have c1961b1 : (!t1922.1) = true := by rw [c1961b0]; rfl
              try rw [c1961b1]
              clear c1961
              go_wp2_with fail
              have ho := some_eq AL1945
              subst ho
              have H := lp_ret H
              go_ret2
              rw [← some_eq H]
              exact ⟨g1900, (by first | rfl | (simp [IntKind.wrap_u32]; done)), g1901, A1902, ((t1893.2.2.2.2).length), n1904, ((((HS.out).front 2 (by simp)).front 2 (by simp)).front 2 (by simp)).keep (l := [b14 g1900 g1901 t1893.1 t1893.2.1 t1893.2.2.1 t1893.2.2.2.1, b13 g1901 A1902 ((t1893.2.2.2.2).length) n1904 t1922.2.1, r4 A1902 ((t1893.2.2.2.2).length) n1904 t1922.2.2]) (rest := [])⟩
          · have AL1945 := if_no c1952 AL1945
            have c1952b0 : decide (0 ≤ x1948) = false := decide_eq_false c1952
            clear c1952
            exact (none_no AL1945).elim
        · have AL1945 := if_no c1951 AL1945
          have c1951b0 : decide (x1948 < (l698.length : Int)) = false := decide_eq_false c1951
          clear c1951
          have ho := some_eq AL1945
          subst ho
          clear AL1945
          have H := lp_out H
          go_wp2_with fail
          go_ret2
          rw [← some_eq H]
          exact ⟨g1900, (by first | rfl | (simp [IntKind.wrap_u32]; done)), g1901, A1902, ((t1893.2.2.2.2).length), n1904, ((((HS.out).front 2 (by simp)).front 2 (by simp)).front 2 (by simp)).keep (l := [b14 g1900 g1901 t1893.1 t1893.2.1 t1893.2.2.1 t1893.2.2.2.1, b13 g1901 A1902 ((t1893.2.2.2.2).length) n1904 x1950, r4 A1902 ((t1893.2.2.2.2).length) n1904 x1949]) (rest := [])⟩
  · have H := sum_r H
    have H := sum_r H
    refine (ground_New.calls _ (l698.length : Int) 16 1 1 (.inr (.inr t1894)) _ ⟨Gl.pass (l := []) (rest := []) HGl0.out HS.out⟩ ⟨HS.out.begin (l := []) (rest := [])⟩ HA1891).mono ?_
    rintro e_ w1990 ⟨rfl, hS⟩
    replace HS : Aside0 (Sep (fps []) w [] w1990) := ⟨HS.out.call (l := []) (rest := []) hS⟩
    clear hS
    by_cases c1991 : t1894 = 0
    · have H := if_yes c1991 H
      have c1991b0 : (t1894 == 0) = true := beq_iff_eq.mpr c1991
      have c1991b1 : (t1894 != 0) = false := bne_eq_false_iff_eq.mpr c1991
      clear c1991
      go_wp2_with fail
      obtain ⟨o2009, AL2010, H⟩ := bind_some H
      go_loopg [20] k (fun kq v20 wc => ∃ (x2013 : Int), v20 = .int .i64 x2013 ∧ Aside0 (quitrentlaw09_made.lo1 kq l698 x2013 = some o2009) ∧ Aside0 (Sep (fps []) w [] wc))
      case atStart => exact ⟨(0), (by first | rfl | (simp [IntKind.wrap_u32]; done)), AL2010, ⟨HS.out⟩⟩
      case round =>
        clear AL2010 HS
        obtain ⟨x2013, rfl, AL2010, HS⟩ := hrel
        obtain ⟨w2011, rfl⟩ : ∃ x : World, x = wr := ⟨_, rfl⟩
        cases gk with
        | zero => exact absurd AL2010.out (by simp [quitrentlaw09_made.lo1])
        | succ k2012 =>
          have AL0 := AL2010.out
          rw [quitrentlaw09_made.lo1] at AL0
          clear AL2010
          have AL2010 := Aside0.mk AL0
          clear AL0
          by_cases c2014 : x2013 < (l698.length : Int)
          · have AL2010 := if_yes c2014 AL2010
            have c2014b0 : decide (x2013 < (l698.length : Int)) = true := decide_eq_true c2014
            clear c2014
            by_cases c2015 : 0 ≤ x2013
            · have AL2010 := if_yes c2015 AL2010
              have c2015b0 : decide (0 ≤ x2013) = true := decide_eq_true c2015
              have c2015p : (0 ≤ x2013) = True := eq_true c2015
              clear c2015
              have ip2016 : (x2013 < (l698.length : Int)) = True := eq_true (of_decide_eq_true c2014b0)
              obtain ⟨hx2017a, hx2017e, hx2017⟩ := Kd.at_int (Rd.read (fun _ _ _ _ h => h) HR701.out HS.out.fr) x2013 (of_decide_eq_true c2015b0) (of_decide_eq_true c2014b0); cases hx2017e
              go_wp2_with fail
              clear hx2017
              obtain ⟨t1916, HA2018, AL2010⟩ := bind_some AL2010
              refine (quitrentlaw09_tagOf.calls (rd l698 x2013) t1916 _ ⟨Gl.pass (l := []) (rest := []) HGl0.out HS.out⟩ ⟨HS.out.begin (l := []) (rest := [])⟩ HA2018).mono ?_
              rintro e_ w2019 ⟨rfl, hS⟩
              replace HS : Aside0 (Sep (fps []) w [] w2019) := ⟨HS.out.call (l := []) (rest := []) hS⟩
              clear hS
              go_wp2_with fail
              obtain ⟨t1919, HA2020, AL2010⟩ := bind_some AL2010
              refine (quitrentref06_Pack.calls t1916.1 t1916.2.1 t1916.2.2.1 t1916.2.2.2.1 t1916.2.2.2.2.1 t1916.2.2.2.2.2.1 t1916.2.2.2.2.2.2 t1919 _ ⟨Gl.pass (l := []) (rest := []) HGl0.out HS.out⟩ ⟨HS.out.begin (l := []) (rest := [])⟩ HA2020).mono ?_
              rintro e_ w2021 ⟨rfl, hS⟩
              replace HS : Aside0 (Sep (fps []) w [] w2021) := ⟨HS.out.call (l := []) (rest := []) hS⟩
              clear hS
              go_wp2_with fail
              obtain ⟨t1922, HA2022, AL2010⟩ := bind_some AL2010
              refine (ground_Ground_SetWord_nil.calls x2013 0 t1919 t1922 _ ⟨Gl.pass (l := []) (rest := []) HGl0.out HS.out⟩ ⟨HS.out.begin (l := []) (rest := [])⟩ HA2022).mono ?_
              rintro e_ w2023 ⟨rfl, hS⟩
              replace HS : Aside0 (Sep (fps []) w [] w2023) := ⟨HS.out.call (l := []) (rest := []) hS⟩
              clear hS
              by_cases c2024 : t1922 = true
              · have AL2010 := if_yes c2024 AL2010
                have c2024b0 : t1922 = true := c2024
                have c2024b1 : (!t1922) = false := by rw [c2024b0]; rfl
                try rw [c2024b1]
                clear c2024
                go_wp2_with fail
                go_roundg k2012
                case measure => exact Nat.lt_succ_self _
                case rel => exact ⟨(wrap64 (x2013 + 1)), (by first | rfl | (simp [IntKind.wrap_u32]; done)), Aside0.mk AL2010.out, ⟨(HS.out).keep (l := []) (rest := [])⟩⟩
              · have AL2010 := if_no c2024 AL2010
                have c2024b0 : t1922 = false := by simpa using c2024
                have c2024b1 : (!t1922) = true := by rw [c2024b0]; rfl
                try rw [c2024b1]
                clear c2024
                go_wp2_with fail
                have ho := some_eq AL2010
                subst ho
                have H := lp_ret H
                go_ret2
                rw [← some_eq H]
                exact ⟨(by first | rfl | (simp [IntKind.wrap_u32]; done)), (HS.out).keep (l := []) (rest := [])⟩
            · have AL2010 := if_no c2015 AL2010
              have c2015b0 : decide (0 ≤ x2013) = false := decide_eq_false c2015
              clear c2015
              exact (none_no AL2010).elim
          · have AL2010 := if_no c2014 AL2010
            have c2014b0 : decide (x2013 < (l698.length : Int)) = false := decide_eq_false c2014
            clear c2014
            have ho := some_eq AL2010
            subst ho
            clear AL2010
            have H := lp_out H
            go_wp2_with fail
            go_ret2
            rw [← some_eq H]
            exact ⟨(by first | rfl | (simp [IntKind.wrap_u32]; done)), (HS.out).keep (l := []) (rest := [])⟩
    · have H := if_no c1991 H
      have c1991b0 : (t1894 == 0) = false := beq_eq_false_iff_ne.mpr c1991
      have c1991b1 : (t1894 != 0) = true := bne_iff_ne.mpr c1991
      clear c1991
      go_wp2_with fail
      go_ret2
      rw [← some_eq H]
      exact ⟨(by first | rfl | (simp [IntKind.wrap_u32]; done)), (HS.out).keep (l := []) (rest := [])⟩
end Go.Proofs.YtobeonkddamnoaaDoor.C

/- Each function of the group Po does what its plain function says, and changes nothing that was there; proved by walking its code. No condition. -/
import Derived.Test.YtobeonkddamnoaaQw
import Derived.Test.YtobeonkddamnoaaMPo
import Derived.Test.YtobeonkddamnoaaGPo0
namespace Go.Proofs.Ytobeonkddamnoaa.C
open Go.RowKit Go.Proofs.YtobeonkddamnoaaW.PrintWords Go.Proofs.YtobeonkddamnoaaW.PrintLast Go.Proofs.YtobeonkddamnoaaW.PrintMore Go.Proofs.Ytobeonkddamnoaa.Q Go.Proofs.Ytobeonkddamnoaa.M
set_option linter.unusedVariables false
set_option linter.unusedSimpArgs false
set_option maxHeartbeats 30000000 in
set_option maxRecDepth 100000 in
theorem plan_Of.calls (k : Nat) (a571 : Int) (a572 : Int) (a573 : Int) (a574 : Int) (r : Int × Int × Int × Int × Int × Int × Int × Int × Int) (w : World)   (HS : Aside0 (Sep (fps []) w [] w)) (H : Aside0 (plan_Of.f k a571 a572 a573 a574 = some r)) :
    Calls Try.prog 76 #[.agg #[.int .i64 a571, .int .i64 a572, .int .i64 a573, .int .i64 a574]] w fun e w' => e = .returned (.tuple #[.agg #[.int .i64 r.1, .int .i64 r.2.1, .int .i64 r.2.2.1, .int .i64 r.2.2.2.1, .int .i64 r.2.2.2.2.1, .int .i64 r.2.2.2.2.2.1, .int .i64 r.2.2.2.2.2.2.1, .int .i64 r.2.2.2.2.2.2.2.1], .int .i64 r.2.2.2.2.2.2.2.2]) ∧ Sep (fps []) w [] w' := by
  unfold plan_Of.f at H
  go_enter Try.func76, Try.ntmps76
  go_wp2_with (first | ((with_reducible refine gate_dst (N := 1) rfl ?_); refine box_on ?hg (N := 1) ?hd (cs := #[.int .i64 a571, .int .i64 a572, .int .i64 a573, .int .i64 a574]) (t := 49) ?hr ?_; (case hd => rfl); (case hg => rfl); (case hr => first | (go_simp; done) | (go_simp; rfl)); intro g575 hg w576 hbox hb; replace HS : Aside0 (Sep (fps []) w [b2 g575 a571 a572 a573 a574] w576) := ⟨HS.out.box hg hbox hb⟩; clear hg hbox hb) | ((with_reducible refine gate_dst (N := 2) rfl ?_); refine box_on ?hg (N := 2) ?hd (cs := #[.int .i64 0, .int .i64 0, .int .i64 0, .int .i64 0, .int .i64 0, .int .i64 0, .int .i64 0, .int .i64 0]) (t := 120) ?hr ?_; (case hd => rfl); (case hg => rfl); (case hr => first | (go_simp; done) | (go_simp; rfl)); intro g578 hg w579 hbox hb; replace HS : Aside0 (Sep (fps []) w [b2 g575 a571 a572 a573 a574, b8 g578 0 0 0 0 0 0 0 0] w579) := ⟨HS.out.box hg hbox hb⟩; clear hg hbox hb; have hc581 : w579.cell? ⟨g575, 0, none⟩ = some (.int .i64 a571) := blk_cellv (HS.out.at0) 0 rfl; have hc582 : w579.cell? ⟨g575, 1, none⟩ = some (.int .i64 a572) := blk_cellv (HS.out.at0) 1 rfl; have hc583 : w579.cell? ⟨g575, 2, none⟩ = some (.int .i64 a573) := blk_cellv (HS.out.at0) 2 rfl; have hc584 : w579.cell? ⟨g575, 3, none⟩ = some (.int .i64 a574) := blk_cellv (HS.out.at0) 3 rfl))
  clear hc581 hc582 hc583 hc584
  obtain ⟨t626, HA627, H⟩ := bind_some H
  refine (plan_Check.calls a571 a572 a573 a574 t626 _ ⟨Sep.start _⟩ HA627).mono ?_
  rintro e_ w628 ⟨rfl, hS⟩
  replace HS : Aside0 (Sep (fps []) w [b2 g575 a571 a572 a573 a574, b8 g578 0 0 0 0 0 0 0 0] w628) := ⟨HS.out.call hS⟩
  clear hS
  by_cases c629 : t626 = 0
  · have H := if_yes c629 H
    have c629b0 : (t626 == 0) = true := beq_iff_eq.mpr c629
    have c629b1 : (t626 != 0) = false := bne_eq_false_iff_eq.mpr c629
    clear c629
    go_wp2_with fail
    obtain ⟨t706, HA707, H⟩ := bind_some H
    obtain ⟨t732, HA733, H⟩ := bind_some H
    go_cut [5] (fun v5 wc => ∃ (g632 : Nat) (g709 : Nat) (g735 : Nat), v5 = .pointer (some ⟨g735, 0, none⟩) ∧ Aside0 (Sep (fps []) w [b2 g575 a571 a572 a573 a574, b8 g578 0 0 0 0 0 0 0 0, b9 g632 a571 a572, b10 g709 24 a573 t706, b8 g735 t732 (wrap64 (a572 - 8)) 0 0 0 0 0 0] wc))
    case first =>
      go_wp2_with fail
      refine start_ (n := 16) (S := (fun w' => w'.cell? ⟨g575, 2, none⟩ = some (.int .i64 a573) ∧ w'.cell? ⟨g575, 0, none⟩ = some (.int .i64 a571) ∧ w'.cell? ⟨g575, 1, none⟩ = some (.int .i64 a572))) (ds := []) #[false, false, false, false, false, false, false, false, false, false, false, false, false, false, false, false] (by kernel_rfl) rfl rfl (⟨blk_cellv ((HS.out.drew).at0) 2 rfl, blk_cellv ((HS.out.drew).at0) 0 rfl, blk_cellv ((HS.out.drew).at0) 1 rfl⟩) (fun hHeld => ?_)
      have HS_ := Aside0.mk HS.out.drew
      clear HS
      generalize World.drew _ = w757 at HS_ hHeld ⊢
      have HS := HS_
      clear HS_
      refine pure_ (i := 0) (N := some 12) (v := ?_) (a' := ?_) #[true, false, false, false, false, false, false, false, false, false, false, false, false, false, false, false] rfl rfl (by kernel_rfl) (fun _ _ _ h => h) (Or.inl ⟨by rfl, ?_⟩) ?_ ?_
      rotate_left
      · intro w'
        go_simp
        with_reducible rfl
      rotate_left
      · simp only [Act.put, List.setIfInBounds_toArray, List.set_cons_zero, List.set_cons_succ, i64_w, i32_w]
        rfl
      refine pure_ (i := 2) (N := some 14) (v := ?_) (a' := ?_) #[true, false, true, false, false, false, false, false, false, false, false, false, false, false, false, false] rfl rfl (by kernel_rfl) (fun _ _ _ h => h) (Or.inl ⟨by rfl, ?_⟩) ?_ ?_
      rotate_left
      · intro w'
        go_simp
        with_reducible rfl
      rotate_left
      · simp only [Act.put, List.setIfInBounds_toArray, List.set_cons_zero, List.set_cons_succ, i64_w, i32_w]
        rfl
      refine pure_ (i := 4) (N := some 16) (v := ?_) (a' := ?_) #[true, false, true, false, true, false, false, false, false, false, false, false, false, false, false, false] rfl rfl (by kernel_rfl) (fun _ _ _ h => h) (Or.inl ⟨by rfl, ?_⟩) ?_ ?_
      rotate_left
      · intro w'
        go_simp
        with_reducible rfl
      rotate_left
      · simp only [Act.put, List.setIfInBounds_toArray, List.set_cons_zero, List.set_cons_succ, i64_w, i32_w]
        rfl
      refine pure_ (i := 10) (N := some 22) (v := ?_) (a' := ?_) #[true, false, true, false, true, false, false, false, false, false, true, false, false, false, false, false] rfl rfl (by kernel_rfl) (fun _ _ _ h => h) (Or.inl ⟨by rfl, ?_⟩) ?_ ?_
      rotate_left
      · intro w'
        go_simp
        with_reducible rfl
      rotate_left
      · simp only [Act.put, List.setIfInBounds_toArray, List.set_cons_zero, List.set_cons_succ, i64_w, i32_w]
        rfl
      refine take_ (i := 1) (N := some 13) (v := ?_) (a' := ?_) #[true, true, true, false, true, false, false, false, false, false, true, false, false, false, false, false] rfl rfl (by kernel_rfl) (fun _ _ _ h => h) (Or.inl ⟨by rfl, ?_⟩) hHeld ?_ ?_
      rotate_left
      · rintro w' hS'
        obtain ⟨s0, s1, s2⟩ := hS'
        go_simp
        with_reducible rfl
      rotate_left
      · simp only [Act.put, List.setIfInBounds_toArray, List.set_cons_zero, List.set_cons_succ, i64_w, i32_w]
        rfl
      refine take_ (i := 3) (N := some 15) (v := ?_) (a' := ?_) #[true, true, true, true, true, false, false, false, false, false, true, false, false, false, false, false] rfl rfl (by kernel_rfl) (fun _ _ _ h => h) (Or.inl ⟨by rfl, ?_⟩) hHeld ?_ ?_
      rotate_left
      · rintro w' hS'
        obtain ⟨s0, s1, s2⟩ := hS'
        go_simp
        with_reducible rfl
      rotate_left
      · simp only [Act.put, List.setIfInBounds_toArray, List.set_cons_zero, List.set_cons_succ, i64_w, i32_w]
        rfl
      refine take_ (i := 5) (N := some 17) (v := ?_) (a' := ?_) #[true, true, true, true, true, true, false, false, false, false, true, false, false, false, false, false] rfl rfl (by kernel_rfl) (fun _ _ _ h => h) (Or.inl ⟨by rfl, ?_⟩) hHeld ?_ ?_
      rotate_left
      · rintro w' hS'
        obtain ⟨s0, s1, s2⟩ := hS'
        go_simp
        with_reducible rfl
      rotate_left
      · simp only [Act.put, List.setIfInBounds_toArray, List.set_cons_zero, List.set_cons_succ, i64_w, i32_w]
        rfl
      refine take_ (i := 11) (N := some 23) (v := ?_) (a' := ?_) #[true, true, true, true, true, true, false, false, false, false, true, true, false, false, false, false] rfl rfl (by kernel_rfl) (fun _ _ _ h => h) (Or.inl ⟨by rfl, ?_⟩) hHeld ?_ ?_
      rotate_left
      · rintro w' hS'
        obtain ⟨s0, s1, s2⟩ := hS'
        go_simp
        with_reducible rfl
      rotate_left
      · simp only [Act.put, List.setIfInBounds_toArray, List.set_cons_zero, List.set_cons_succ, i64_w, i32_w]
        rfl
      refine pure_ (i := 12) (N := some 24) (v := ?_) (a' := ?_) #[true, true, true, true, true, true, false, false, false, false, true, true, true, false, false, false] rfl rfl (by kernel_rfl) (fun _ _ _ h => h) (Or.inl ⟨by rfl, ?_⟩) ?_ ?_
      rotate_left
      · intro w'
        go_simp
        with_reducible rfl
      rotate_left
      · simp only [Act.put, List.setIfInBounds_toArray, List.set_cons_zero, List.set_cons_succ, i64_w, i32_w]
        rfl
      refine two_ (i := 6) (j := 14) (Ni := some 18) (Nj := some 5) #[true, true, true, true, true, true, true, false, false, false, true, true, true, false, false, false] #[true, true, true, true, true, true, false, false, false, false, true, true, true, false, true, false] rfl rfl rfl rfl (by kernel_rfl) (by decide) (by decide) (fun K hK => ?_) (fun K hK => ?_)
      · refine slice_step (n := 2) (by rfl) (N := 18) rfl (cs := #[.int .i64 a571, .int .i64 a572]) (t := 3) ?hr ?_
        case hr => first | (go_simp; done) | (go_simp; rfl)
        intro g758 hg w759 hbox hb
        replace HS : Aside0 (Sep (fps []) w [b2 g575 a571 a572 a573 a574, b8 g578 0 0 0 0 0 0 0 0, b9 g758 a571 a572] w759) := ⟨HS.out.box hg hbox hb⟩
        clear hg hbox hb
        refine hK.out _ _ (⟨blk_cellv (HS.out.at0) 2 rfl, blk_cellv (HS.out.at0) 0 rfl, blk_cellv (HS.out.at0) 1 rfl⟩) (fun hHeld => ?_)
        clear hK K
        refine norm_ (a' := ?_) ?_ ?_
        rotate_left
        · show Act.put _ (some 18) _ = _
          simp only [Act.put, List.setIfInBounds_toArray, List.set_cons_zero, List.set_cons_succ, i64_w, i32_w]
          rfl
        refine two_ (i := 7) (j := 14) (Ni := some 19) (Nj := some 5) #[true, true, true, true, true, true, true, true, false, false, true, true, true, false, false, false] #[true, true, true, true, true, true, true, false, false, false, true, true, true, false, true, false] rfl rfl rfl rfl (by kernel_rfl) (by decide) (by decide) (fun K hK => ?_) (fun K hK => ?_)
        · refine goes_ Try.func107 (by kernel_rfl) rfl #[.slice (some ⟨g758, 0, none⟩) 2 2] (by rfl) rfl rfl (by (try simp only [List.map_toArray, List.map_cons, List.map_nil]); first | done | rfl) ?_
          refine (ratio_Mul.calls _ [a571, a572] (some ⟨g758, 0, none⟩) 2 t706 _ ⟨Rd.lit (l := []) (xs := [a571, a572]) HS.out 2 rfl (by simp)⟩ ⟨Sep.start _⟩ HA707).mono ?_
          rintro e_ w762 ⟨rfl, hS⟩
          replace HS : Aside0 (Sep (fps []) w [b2 g575 a571 a572 a573 a574, b8 g578 0 0 0 0 0 0 0 0, b9 g758 a571 a572] w762) := ⟨HS.out.call hS⟩
          clear hS
          refine ⟨_, rfl, ?_⟩
          refine hK.out _ _ (⟨blk_cellv (HS.out.at0) 2 rfl, blk_cellv (HS.out.at0) 0 rfl, blk_cellv (HS.out.at0) 1 rfl⟩) (fun hHeld => ?_)
          clear hK K
          refine norm_ (a' := ?_) ?_ ?_
          rotate_left
          · show Act.put _ (some 19) _ = _
            simp only [Act.put, List.setIfInBounds_toArray, List.set_cons_zero, List.set_cons_succ, i64_w, i32_w]
            rfl
          refine two_ (i := 8) (j := 14) (Ni := some 20) (Nj := some 5) #[true, true, true, true, true, true, true, true, true, false, true, true, true, false, false, false] #[true, true, true, true, true, true, true, true, false, false, true, true, true, false, true, false] rfl rfl rfl rfl (by kernel_rfl) (by decide) (by decide) (fun K hK => ?_) (fun K hK => ?_)
          · refine slice_step (n := 3) (by rfl) (N := 20) rfl (cs := #[.int .i64 24, .int .i64 a573, .int .i64 t706]) (t := 3) ?hr ?_
            case hr => first | (go_simp; done) | (go_simp; rfl)
            intro g763 hg w764 hbox hb
            replace HS : Aside0 (Sep (fps []) w [b2 g575 a571 a572 a573 a574, b8 g578 0 0 0 0 0 0 0 0, b9 g758 a571 a572, b10 g763 24 a573 t706] w764) := ⟨HS.out.box hg hbox hb⟩
            clear hg hbox hb
            refine hK.out _ _ (⟨blk_cellv (HS.out.at0) 2 rfl, blk_cellv (HS.out.at0) 0 rfl, blk_cellv (HS.out.at0) 1 rfl⟩) (fun hHeld => ?_)
            clear hK K
            refine norm_ (a' := ?_) ?_ ?_
            rotate_left
            · show Act.put _ (some 20) _ = _
              simp only [Act.put, List.setIfInBounds_toArray, List.set_cons_zero, List.set_cons_succ, i64_w, i32_w]
              rfl
            refine two_ (i := 9) (j := 14) (Ni := some 21) (Nj := some 5) #[true, true, true, true, true, true, true, true, true, true, true, true, true, false, false, false] #[true, true, true, true, true, true, true, true, true, false, true, true, true, false, true, false] rfl rfl rfl rfl (by kernel_rfl) (by decide) (by decide) (fun K hK => ?_) (fun K hK => ?_)
            · refine goes_ Try.func106 (by kernel_rfl) rfl #[.slice (some ⟨g763, 0, none⟩) 3 3] (by rfl) rfl rfl (by (try simp only [List.map_toArray, List.map_cons, List.map_nil]); first | done | rfl) ?_
              refine (ratio_Add.calls _ [24, a573, t706] (some ⟨g763, 0, none⟩) 3 t732 _ ⟨Rd.lit (l := []) (xs := [24, a573, t706]) HS.out 3 rfl (by simp)⟩ ⟨Sep.start _⟩ HA733).mono ?_
              rintro e_ w767 ⟨rfl, hS⟩
              replace HS : Aside0 (Sep (fps []) w [b2 g575 a571 a572 a573 a574, b8 g578 0 0 0 0 0 0 0 0, b9 g758 a571 a572, b10 g763 24 a573 t706] w767) := ⟨HS.out.call hS⟩
              clear hS
              refine ⟨_, rfl, ?_⟩
              refine hK.out _ _ (⟨blk_cellv (HS.out.at0) 2 rfl, blk_cellv (HS.out.at0) 0 rfl, blk_cellv (HS.out.at0) 1 rfl⟩) (fun hHeld => ?_)
              clear hK K
              refine norm_ (a' := ?_) ?_ ?_
              rotate_left
              · show Act.put _ (some 21) _ = _
                simp only [Act.put, List.setIfInBounds_toArray, List.set_cons_zero, List.set_cons_succ, i64_w, i32_w]
                rfl
              refine pure_ (i := 13) (N := some 25) (v := ?_) (a' := ?_) #[true, true, true, true, true, true, true, true, true, true, true, true, true, true, false, false] rfl rfl (by kernel_rfl) (fun _ _ _ h => h) (Or.inl ⟨by rfl, ?_⟩) ?_ ?_
              rotate_left
              · intro w'
                go_simp
                with_reducible rfl
              rotate_left
              · simp only [Act.put, List.setIfInBounds_toArray, List.set_cons_zero, List.set_cons_succ, i64_w, i32_w]
                rfl
              refine one_ (i := 14) (N := some 5) #[true, true, true, true, true, true, true, true, true, true, true, true, true, true, true, false] rfl rfl (by kernel_rfl) (by decide) (fun K hK => ?_)
              refine box_step (by rfl) (N := 5) rfl (cs := #[.int .i64 0, .int .i64 0, .int .i64 0, .int .i64 0, .int .i64 0, .int .i64 0, .int .i64 0, .int .i64 0]) (t := 120) ?hr ?_
              case hr => first | (go_simp; done) | (go_simp; rfl)
              intro g768 hg w769 hbox hb
              replace HS : Aside0 (Sep (fps []) w [b2 g575 a571 a572 a573 a574, b8 g578 0 0 0 0 0 0 0 0, b9 g758 a571 a572, b10 g763 24 a573 t706, b8 g768 0 0 0 0 0 0 0 0] w769) := ⟨HS.out.box hg hbox hb⟩
              clear hg hbox hb
              refine hK.out _ _ (⟨blk_cellv (HS.out.at0) 2 rfl, blk_cellv (HS.out.at0) 0 rfl, blk_cellv (HS.out.at0) 1 rfl⟩) (fun hHeld => ?_)
              clear hK K
              refine norm_ (a' := ?_) ?_ ?_
              rotate_left
              · show Act.put _ (some 5) _ = _
                simp only [Act.put, List.setIfInBounds_toArray, List.set_cons_zero, List.set_cons_succ, i64_w, i32_w]
                rfl
              refine one_ (i := 15) (N := none) #[true, true, true, true, true, true, true, true, true, true, true, true, true, true, true, true] rfl rfl (by kernel_rfl) (by decide) (fun K hK => ?_)
              have hc772 := blk_cellv (v := .int .i64 0) (HS.out.at4) 0 rfl
              have hz773 := blk_fz (HS.out.at4) 0
              have hc774 := blk_cellv (v := .int .i64 0) (HS.out.at4) 1 rfl
              have hz775 := blk_fz (HS.out.at4) 1
              have hc776 := blk_cellv (v := .int .i64 0) (HS.out.at4) 2 rfl
              have hz777 := blk_fz (HS.out.at4) 2
              have hc778 := blk_cellv (v := .int .i64 0) (HS.out.at4) 3 rfl
              have hz779 := blk_fz (HS.out.at4) 3
              have hc780 := blk_cellv (v := .int .i64 0) (HS.out.at4) 4 rfl
              have hz781 := blk_fz (HS.out.at4) 4
              have hc782 := blk_cellv (v := .int .i64 0) (HS.out.at4) 5 rfl
              have hz783 := blk_fz (HS.out.at4) 5
              have hc784 := blk_cellv (v := .int .i64 0) (HS.out.at4) 6 rfl
              have hz785 := blk_fz (HS.out.at4) 6
              have hc786 := blk_cellv (v := .int .i64 0) (HS.out.at4) 7 rfl
              have hz787 := blk_fz (HS.out.at4) 7
              refine store_step (w1 := (World.setCell (World.setCell (World.setCell (World.setCell (World.setCell (World.setCell (World.setCell (World.setCell w769 ⟨g768, 0, none⟩ (.int .i64 t732)) ⟨g768, 1, none⟩ (.int .i64 (wrap64 (a572 - 8)))) ⟨g768, 2, none⟩ (.int .i64 0)) ⟨g768, 3, none⟩ (.int .i64 0)) ⟨g768, 4, none⟩ (.int .i64 0)) ⟨g768, 5, none⟩ (.int .i64 0)) ⟨g768, 6, none⟩ (.int .i64 0)) ⟨g768, 7, none⟩ (.int .i64 0))) (by rfl) rfl ?hr ?_
              case hr => first | (go_simp; done) | (go_simp; rfl)
              clear hc772 hz773 hc774 hz775 hc776 hz777 hc778 hz779 hc780 hz781 hc782 hz783 hc784 hz785 hc786 hz787
              intro w771 hst
              replace HS : Aside0 (Sep (fps []) w [b2 g575 a571 a572 a573 a574, b8 g578 0 0 0 0 0 0 0 0, b9 g758 a571 a572, b10 g763 24 a573 t706, b8 g768 t732 (wrap64 (a572 - 8)) 0 0 0 0 0 0] w771) := ⟨by rw [hst]; exact HS.out.setAll (l1 := [b2 g575 a571 a572 a573 a574, b8 g578 0 0 0 0 0 0 0 0, b9 g758 a571 a572, b10 g763 24 a573 t706]) (l2 := []) [.int .i64 t732, .int .i64 (wrap64 (a572 - 8)), .int .i64 0, .int .i64 0, .int .i64 0, .int .i64 0, .int .i64 0, .int .i64 0] rfl⟩
              clear hst
              refine hK.out _ _ (⟨blk_cellv (HS.out.at0) 2 rfl, blk_cellv (HS.out.at0) 0 rfl, blk_cellv (HS.out.at0) 1 rfl⟩) (fun hHeld => ?_)
              clear hK K
              refine done_ (by kernel_rfl) ?_
              go_wp2_with fail
              go_meet
              case rel => exact ⟨g758, g763, g768, (by first | rfl | (simp [IntKind.wrap_u32]; done)), ⟨(((((HS.out).front 4 (by simp)).front 4 (by simp)).front 4 (by simp)).front 4 (by simp)).front 4 (by simp)⟩⟩
            · refine box_step (by rfl) (N := 5) rfl (cs := #[.int .i64 0, .int .i64 0, .int .i64 0, .int .i64 0, .int .i64 0, .int .i64 0, .int .i64 0, .int .i64 0]) (t := 120) ?hr ?_
              case hr => first | (go_simp; done) | (go_simp; rfl)
              intro g788 hg w789 hbox hb
              replace HS : Aside0 (Sep (fps []) w [b2 g575 a571 a572 a573 a574, b8 g578 0 0 0 0 0 0 0 0, b9 g758 a571 a572, b10 g763 24 a573 t706, b8 g788 0 0 0 0 0 0 0 0] w789) := ⟨HS.out.box hg hbox hb⟩
              clear hg hbox hb
              refine hK.out _ _ (⟨blk_cellv (HS.out.at0) 2 rfl, blk_cellv (HS.out.at0) 0 rfl, blk_cellv (HS.out.at0) 1 rfl⟩) (fun hHeld => ?_)
              clear hK K
              refine norm_ (a' := ?_) ?_ ?_
              rotate_left
              · show Act.put _ (some 5) _ = _
                simp only [Act.put, List.setIfInBounds_toArray, List.set_cons_zero, List.set_cons_succ, i64_w, i32_w]
                rfl
              refine one_ (i := 9) (N := some 21) #[true, true, true, true, true, true, true, true, true, true, true, true, true, false, true, false] rfl rfl (by kernel_rfl) (by decide) (fun K hK => ?_)
              refine goes_ Try.func106 (by kernel_rfl) rfl #[.slice (some ⟨g763, 0, none⟩) 3 3] (by rfl) rfl rfl (by (try simp only [List.map_toArray, List.map_cons, List.map_nil]); first | done | rfl) ?_
              refine (ratio_Add.calls _ [24, a573, t706] (some ⟨g763, 0, none⟩) 3 t732 _ ⟨Rd.lit (l := []) (xs := [24, a573, t706]) HS.out 3 rfl (by simp)⟩ ⟨Sep.start _⟩ HA733).mono ?_
              rintro e_ w792 ⟨rfl, hS⟩
              replace HS : Aside0 (Sep (fps []) w [b2 g575 a571 a572 a573 a574, b8 g578 0 0 0 0 0 0 0 0, b9 g758 a571 a572, b10 g763 24 a573 t706, b8 g788 0 0 0 0 0 0 0 0] w792) := ⟨HS.out.call hS⟩
              clear hS
              refine ⟨_, rfl, ?_⟩
              refine hK.out _ _ (⟨blk_cellv (HS.out.at0) 2 rfl, blk_cellv (HS.out.at0) 0 rfl, blk_cellv (HS.out.at0) 1 rfl⟩) (fun hHeld => ?_)
              clear hK K
              refine norm_ (a' := ?_) ?_ ?_
              rotate_left
              · show Act.put _ (some 21) _ = _
                simp only [Act.put, List.setIfInBounds_toArray, List.set_cons_zero, List.set_cons_succ, i64_w, i32_w]
                rfl
              refine pure_ (i := 13) (N := some 25) (v := ?_) (a' := ?_) #[true, true, true, true, true, true, true, true, true, true, true, true, true, true, true, false] rfl rfl (by kernel_rfl) (fun _ _ _ h => h) (Or.inl ⟨by rfl, ?_⟩) ?_ ?_
              rotate_left
              · intro w'
                go_simp
                with_reducible rfl
              rotate_left
              · simp only [Act.put, List.setIfInBounds_toArray, List.set_cons_zero, List.set_cons_succ, i64_w, i32_w]
                rfl
              refine one_ (i := 15) (N := none) #[true, true, true, true, true, true, true, true, true, true, true, true, true, true, true, true] rfl rfl (by kernel_rfl) (by decide) (fun K hK => ?_)
              have hc794 := blk_cellv (v := .int .i64 0) (HS.out.at4) 0 rfl
              have hz795 := blk_fz (HS.out.at4) 0
              have hc796 := blk_cellv (v := .int .i64 0) (HS.out.at4) 1 rfl
              have hz797 := blk_fz (HS.out.at4) 1
              have hc798 := blk_cellv (v := .int .i64 0) (HS.out.at4) 2 rfl
              have hz799 := blk_fz (HS.out.at4) 2
              have hc800 := blk_cellv (v := .int .i64 0) (HS.out.at4) 3 rfl
              have hz801 := blk_fz (HS.out.at4) 3
              have hc802 := blk_cellv (v := .int .i64 0) (HS.out.at4) 4 rfl
              have hz803 := blk_fz (HS.out.at4) 4
              have hc804 := blk_cellv (v := .int .i64 0) (HS.out.at4) 5 rfl
              have hz805 := blk_fz (HS.out.at4) 5
              have hc806 := blk_cellv (v := .int .i64 0) (HS.out.at4) 6 rfl
              have hz807 := blk_fz (HS.out.at4) 6
              have hc808 := blk_cellv (v := .int .i64 0) (HS.out.at4) 7 rfl
              have hz809 := blk_fz (HS.out.at4) 7
              refine store_step (w1 := (World.setCell (World.setCell (World.setCell (World.setCell (World.setCell (World.setCell (World.setCell (World.setCell w792 ⟨g788, 0, none⟩ (.int .i64 t732)) ⟨g788, 1, none⟩ (.int .i64 (wrap64 (a572 - 8)))) ⟨g788, 2, none⟩ (.int .i64 0)) ⟨g788, 3, none⟩ (.int .i64 0)) ⟨g788, 4, none⟩ (.int .i64 0)) ⟨g788, 5, none⟩ (.int .i64 0)) ⟨g788, 6, none⟩ (.int .i64 0)) ⟨g788, 7, none⟩ (.int .i64 0))) (by rfl) rfl ?hr ?_
              case hr => first | (go_simp; done) | (go_simp; rfl)
              clear hc794 hz795 hc796 hz797 hc798 hz799 hc800 hz801 hc802 hz803 hc804 hz805 hc806 hz807 hc808 hz809
              intro w793 hst
              replace HS : Aside0 (Sep (fps []) w [b2 g575 a571 a572 a573 a574, b8 g578 0 0 0 0 0 0 0 0, b9 g758 a571 a572, b10 g763 24 a573 t706, b8 g788 t732 (wrap64 (a572 - 8)) 0 0 0 0 0 0] w793) := ⟨by rw [hst]; exact HS.out.setAll (l1 := [b2 g575 a571 a572 a573 a574, b8 g578 0 0 0 0 0 0 0 0, b9 g758 a571 a572, b10 g763 24 a573 t706]) (l2 := []) [.int .i64 t732, .int .i64 (wrap64 (a572 - 8)), .int .i64 0, .int .i64 0, .int .i64 0, .int .i64 0, .int .i64 0, .int .i64 0] rfl⟩
              clear hst
              refine hK.out _ _ (⟨blk_cellv (HS.out.at0) 2 rfl, blk_cellv (HS.out.at0) 0 rfl, blk_cellv (HS.out.at0) 1 rfl⟩) (fun hHeld => ?_)
              clear hK K
              refine done_ (by kernel_rfl) ?_
              go_wp2_with fail
              go_meet
              case rel => exact ⟨g758, g763, g788, (by first | rfl | (simp [IntKind.wrap_u32]; done)), ⟨(((((HS.out).front 4 (by simp)).front 4 (by simp)).front 4 (by simp)).front 4 (by simp)).front 4 (by simp)⟩⟩
          · refine box_step (by rfl) (N := 5) rfl (cs := #[.int .i64 0, .int .i64 0, .int .i64 0, .int .i64 0, .int .i64 0, .int .i64 0, .int .i64 0, .int .i64 0]) (t := 120) ?hr ?_
            case hr => first | (go_simp; done) | (go_simp; rfl)
            intro g810 hg w811 hbox hb
            replace HS : Aside0 (Sep (fps []) w [b2 g575 a571 a572 a573 a574, b8 g578 0 0 0 0 0 0 0 0, b9 g758 a571 a572, b8 g810 0 0 0 0 0 0 0 0] w811) := ⟨HS.out.box hg hbox hb⟩
            clear hg hbox hb
            refine hK.out _ _ (⟨blk_cellv (HS.out.at0) 2 rfl, blk_cellv (HS.out.at0) 0 rfl, blk_cellv (HS.out.at0) 1 rfl⟩) (fun hHeld => ?_)
            clear hK K
            refine norm_ (a' := ?_) ?_ ?_
            rotate_left
            · show Act.put _ (some 5) _ = _
              simp only [Act.put, List.setIfInBounds_toArray, List.set_cons_zero, List.set_cons_succ, i64_w, i32_w]
              rfl
            refine one_ (i := 8) (N := some 20) #[true, true, true, true, true, true, true, true, true, false, true, true, true, false, true, false] rfl rfl (by kernel_rfl) (by decide) (fun K hK => ?_)
            refine slice_step (n := 3) (by rfl) (N := 20) rfl (cs := #[.int .i64 24, .int .i64 a573, .int .i64 t706]) (t := 3) ?hr ?_
            case hr => first | (go_simp; done) | (go_simp; rfl)
            intro g813 hg w814 hbox hb
            replace HS : Aside0 (Sep (fps []) w [b2 g575 a571 a572 a573 a574, b8 g578 0 0 0 0 0 0 0 0, b9 g758 a571 a572, b8 g810 0 0 0 0 0 0 0 0, b10 g813 24 a573 t706] w814) := ⟨HS.out.box hg hbox hb⟩
            clear hg hbox hb
            refine hK.out _ _ (⟨blk_cellv (HS.out.at0) 2 rfl, blk_cellv (HS.out.at0) 0 rfl, blk_cellv (HS.out.at0) 1 rfl⟩) (fun hHeld => ?_)
            clear hK K
            refine norm_ (a' := ?_) ?_ ?_
            rotate_left
            · show Act.put _ (some 20) _ = _
              simp only [Act.put, List.setIfInBounds_toArray, List.set_cons_zero, List.set_cons_succ, i64_w, i32_w]
              rfl
            refine one_ (i := 9) (N := some 21) #[true, true, true, true, true, true, true, true, true, true, true, true, true, false, true, false] rfl rfl (by kernel_rfl) (by decide) (fun K hK => ?_)
            refine goes_ Try.func106 (by kernel_rfl) rfl #[.slice (some ⟨g813, 0, none⟩) 3 3] (by rfl) rfl rfl (by (try simp only [List.map_toArray, List.map_cons, List.map_nil]); first | done | rfl) ?_
            refine (ratio_Add.calls _ [24, a573, t706] (some ⟨g813, 0, none⟩) 3 t732 _ ⟨Rd.lit (l := []) (xs := [24, a573, t706]) HS.out 4 rfl (by simp)⟩ ⟨Sep.start _⟩ HA733).mono ?_
            rintro e_ w817 ⟨rfl, hS⟩
            replace HS : Aside0 (Sep (fps []) w [b2 g575 a571 a572 a573 a574, b8 g578 0 0 0 0 0 0 0 0, b9 g758 a571 a572, b8 g810 0 0 0 0 0 0 0 0, b10 g813 24 a573 t706] w817) := ⟨HS.out.call hS⟩
            clear hS
            refine ⟨_, rfl, ?_⟩
            refine hK.out _ _ (⟨blk_cellv (HS.out.at0) 2 rfl, blk_cellv (HS.out.at0) 0 rfl, blk_cellv (HS.out.at0) 1 rfl⟩) (fun hHeld => ?_)
            clear hK K
            refine norm_ (a' := ?_) ?_ ?_
            rotate_left
            · show Act.put _ (some 21) _ = _
              simp only [Act.put, List.setIfInBounds_toArray, List.set_cons_zero, List.set_cons_succ, i64_w, i32_w]
              rfl
            refine pure_ (i := 13) (N := some 25) (v := ?_) (a' := ?_) #[true, true, true, true, true, true, true, true, true, true, true, true, true, true, true, false] rfl rfl (by kernel_rfl) (fun _ _ _ h => h) (Or.inl ⟨by rfl, ?_⟩) ?_ ?_
            rotate_left
            · intro w'
              go_simp
              with_reducible rfl
            rotate_left
            · simp only [Act.put, List.setIfInBounds_toArray, List.set_cons_zero, List.set_cons_succ, i64_w, i32_w]
              rfl
            refine one_ (i := 15) (N := none) #[true, true, true, true, true, true, true, true, true, true, true, true, true, true, true, true] rfl rfl (by kernel_rfl) (by decide) (fun K hK => ?_)
            have hc819 := blk_cellv (v := .int .i64 0) (HS.out.at3) 0 rfl
            have hz820 := blk_fz (HS.out.at3) 0
            have hc821 := blk_cellv (v := .int .i64 0) (HS.out.at3) 1 rfl
            have hz822 := blk_fz (HS.out.at3) 1
            have hc823 := blk_cellv (v := .int .i64 0) (HS.out.at3) 2 rfl
            have hz824 := blk_fz (HS.out.at3) 2
            have hc825 := blk_cellv (v := .int .i64 0) (HS.out.at3) 3 rfl
            have hz826 := blk_fz (HS.out.at3) 3
            have hc827 := blk_cellv (v := .int .i64 0) (HS.out.at3) 4 rfl
            have hz828 := blk_fz (HS.out.at3) 4
            have hc829 := blk_cellv (v := .int .i64 0) (HS.out.at3) 5 rfl
            have hz830 := blk_fz (HS.out.at3) 5
            have hc831 := blk_cellv (v := .int .i64 0) (HS.out.at3) 6 rfl
            have hz832 := blk_fz (HS.out.at3) 6
            have hc833 := blk_cellv (v := .int .i64 0) (HS.out.at3) 7 rfl
            have hz834 := blk_fz (HS.out.at3) 7
            refine store_step (w1 := (World.setCell (World.setCell (World.setCell (World.setCell (World.setCell (World.setCell (World.setCell (World.setCell w817 ⟨g810, 0, none⟩ (.int .i64 t732)) ⟨g810, 1, none⟩ (.int .i64 (wrap64 (a572 - 8)))) ⟨g810, 2, none⟩ (.int .i64 0)) ⟨g810, 3, none⟩ (.int .i64 0)) ⟨g810, 4, none⟩ (.int .i64 0)) ⟨g810, 5, none⟩ (.int .i64 0)) ⟨g810, 6, none⟩ (.int .i64 0)) ⟨g810, 7, none⟩ (.int .i64 0))) (by rfl) rfl ?hr ?_
            case hr => first | (go_simp; done) | (go_simp; rfl)
            clear hc819 hz820 hc821 hz822 hc823 hz824 hc825 hz826 hc827 hz828 hc829 hz830 hc831 hz832 hc833 hz834
            intro w818 hst
            replace HS : Aside0 (Sep (fps []) w [b2 g575 a571 a572 a573 a574, b8 g578 0 0 0 0 0 0 0 0, b9 g758 a571 a572, b8 g810 t732 (wrap64 (a572 - 8)) 0 0 0 0 0 0, b10 g813 24 a573 t706] w818) := ⟨by rw [hst]; exact HS.out.setAll (l1 := [b2 g575 a571 a572 a573 a574, b8 g578 0 0 0 0 0 0 0 0, b9 g758 a571 a572]) (l2 := [b10 g813 24 a573 t706]) [.int .i64 t732, .int .i64 (wrap64 (a572 - 8)), .int .i64 0, .int .i64 0, .int .i64 0, .int .i64 0, .int .i64 0, .int .i64 0] rfl⟩
            clear hst
            refine hK.out _ _ (⟨blk_cellv (HS.out.at0) 2 rfl, blk_cellv (HS.out.at0) 0 rfl, blk_cellv (HS.out.at0) 1 rfl⟩) (fun hHeld => ?_)
            clear hK K
            refine done_ (by kernel_rfl) ?_
            go_wp2_with fail
            go_meet
            case rel => exact ⟨g758, g813, g810, (by first | rfl | (simp [IntKind.wrap_u32]; done)), ⟨(((((HS.out).front 3 (by simp)).front 4 (by simp)).front 4 (by simp)).front 4 (by simp)).front 4 (by simp)⟩⟩
        · refine box_step (by rfl) (N := 5) rfl (cs := #[.int .i64 0, .int .i64 0, .int .i64 0, .int .i64 0, .int .i64 0, .int .i64 0, .int .i64 0, .int .i64 0]) (t := 120) ?hr ?_
          case hr => first | (go_simp; done) | (go_simp; rfl)
          intro g835 hg w836 hbox hb
          replace HS : Aside0 (Sep (fps []) w [b2 g575 a571 a572 a573 a574, b8 g578 0 0 0 0 0 0 0 0, b9 g758 a571 a572, b8 g835 0 0 0 0 0 0 0 0] w836) := ⟨HS.out.box hg hbox hb⟩
          clear hg hbox hb
          refine hK.out _ _ (⟨blk_cellv (HS.out.at0) 2 rfl, blk_cellv (HS.out.at0) 0 rfl, blk_cellv (HS.out.at0) 1 rfl⟩) (fun hHeld => ?_)
          clear hK K
          refine norm_ (a' := ?_) ?_ ?_
          rotate_left
          · show Act.put _ (some 5) _ = _
            simp only [Act.put, List.setIfInBounds_toArray, List.set_cons_zero, List.set_cons_succ, i64_w, i32_w]
            rfl
          refine one_ (i := 7) (N := some 19) #[true, true, true, true, true, true, true, true, false, false, true, true, true, false, true, false] rfl rfl (by kernel_rfl) (by decide) (fun K hK => ?_)
          refine goes_ Try.func107 (by kernel_rfl) rfl #[.slice (some ⟨g758, 0, none⟩) 2 2] (by rfl) rfl rfl (by (try simp only [List.map_toArray, List.map_cons, List.map_nil]); first | done | rfl) ?_
          refine (ratio_Mul.calls _ [a571, a572] (some ⟨g758, 0, none⟩) 2 t706 _ ⟨Rd.lit (l := []) (xs := [a571, a572]) HS.out 2 rfl (by simp)⟩ ⟨Sep.start _⟩ HA707).mono ?_
          rintro e_ w839 ⟨rfl, hS⟩
          replace HS : Aside0 (Sep (fps []) w [b2 g575 a571 a572 a573 a574, b8 g578 0 0 0 0 0 0 0 0, b9 g758 a571 a572, b8 g835 0 0 0 0 0 0 0 0] w839) := ⟨HS.out.call hS⟩
          clear hS
          refine ⟨_, rfl, ?_⟩
          refine hK.out _ _ (⟨blk_cellv (HS.out.at0) 2 rfl, blk_cellv (HS.out.at0) 0 rfl, blk_cellv (HS.out.at0) 1 rfl⟩) (fun hHeld => ?_)
          clear hK K
          refine norm_ (a' := ?_) ?_ ?_
          rotate_left
          · show Act.put _ (some 19) _ = _
            simp only [Act.put, List.setIfInBounds_toArray, List.set_cons_zero, List.set_cons_succ, i64_w, i32_w]
            rfl
          refine one_ (i := 8) (N := some 20) #[true, true, true, true, true, true, true, true, true, false, true, true, true, false, true, false] rfl rfl (by kernel_rfl) (by decide) (fun K hK => ?_)
          refine slice_step (n := 3) (by rfl) (N := 20) rfl (cs := #[.int .i64 24, .int .i64 a573, .int .i64 t706]) (t := 3) ?hr ?_
          case hr => first | (go_simp; done) | (go_simp; rfl)
          intro g840 hg w841 hbox hb
          replace HS : Aside0 (Sep (fps []) w [b2 g575 a571 a572 a573 a574, b8 g578 0 0 0 0 0 0 0 0, b9 g758 a571 a572, b8 g835 0 0 0 0 0 0 0 0, b10 g840 24 a573 t706] w841) := ⟨HS.out.box hg hbox hb⟩
          clear hg hbox hb
          refine hK.out _ _ (⟨blk_cellv (HS.out.at0) 2 rfl, blk_cellv (HS.out.at0) 0 rfl, blk_cellv (HS.out.at0) 1 rfl⟩) (fun hHeld => ?_)
          clear hK K
          refine norm_ (a' := ?_) ?_ ?_
          rotate_left
          · show Act.put _ (some 20) _ = _
            simp only [Act.put, List.setIfInBounds_toArray, List.set_cons_zero, List.set_cons_succ, i64_w, i32_w]
            rfl
          refine one_ (i := 9) (N := some 21) #[true, true, true, true, true, true, true, true, true, true, true, true, true, false, true, false] rfl rfl (by kernel_rfl) (by decide) (fun K hK => ?_)
          refine goes_ Try.func106 (by kernel_rfl) rfl #[.slice (some ⟨g840, 0, none⟩) 3 3] (by rfl) rfl rfl (by (try simp only [List.map_toArray, List.map_cons, List.map_nil]); first | done | rfl) ?_
          refine (ratio_Add.calls _ [24, a573, t706] (some ⟨g840, 0, none⟩) 3 t732 _ ⟨Rd.lit (l := []) (xs := [24, a573, t706]) HS.out 4 rfl (by simp)⟩ ⟨Sep.start _⟩ HA733).mono ?_
          rintro e_ w844 ⟨rfl, hS⟩
          replace HS : Aside0 (Sep (fps []) w [b2 g575 a571 a572 a573 a574, b8 g578 0 0 0 0 0 0 0 0, b9 g758 a571 a572, b8 g835 0 0 0 0 0 0 0 0, b10 g840 24 a573 t706] w844) := ⟨HS.out.call hS⟩
          clear hS
          refine ⟨_, rfl, ?_⟩
          refine hK.out _ _ (⟨blk_cellv (HS.out.at0) 2 rfl, blk_cellv (HS.out.at0) 0 rfl, blk_cellv (HS.out.at0) 1 rfl⟩) (fun hHeld => ?_)
          clear hK K
          refine norm_ (a' := ?_) ?_ ?_
          rotate_left
          · show Act.put _ (some 21) _ = _
            simp only [Act.put, List.setIfInBounds_toArray, List.set_cons_zero, List.set_cons_succ, i64_w, i32_w]
            rfl
          refine pure_ (i := 13) (N := some 25) (v := ?_) (a' := ?_) #[true, true, true, true, true, true, true, true, true, true, true, true, true, true, true, false] rfl rfl (by kernel_rfl) (fun _ _ _ h => h) (Or.inl ⟨by rfl, ?_⟩) ?_ ?_
          rotate_left
          · intro w'
            go_simp
            with_reducible rfl
          rotate_left
          · simp only [Act.put, List.setIfInBounds_toArray, List.set_cons_zero, List.set_cons_succ, i64_w, i32_w]
            rfl
          refine one_ (i := 15) (N := none) #[true, true, true, true, true, true, true, true, true, true, true, true, true, true, true, true] rfl rfl (by kernel_rfl) (by decide) (fun K hK => ?_)
          have hc846 := blk_cellv (v := .int .i64 0) (HS.out.at3) 0 rfl
          have hz847 := blk_fz (HS.out.at3) 0
          have hc848 := blk_cellv (v := .int .i64 0) (HS.out.at3) 1 rfl
          have hz849 := blk_fz (HS.out.at3) 1
          have hc850 := blk_cellv (v := .int .i64 0) (HS.out.at3) 2 rfl
          have hz851 := blk_fz (HS.out.at3) 2
          have hc852 := blk_cellv (v := .int .i64 0) (HS.out.at3) 3 rfl
          have hz853 := blk_fz (HS.out.at3) 3
          have hc854 := blk_cellv (v := .int .i64 0) (HS.out.at3) 4 rfl
          have hz855 := blk_fz (HS.out.at3) 4
          have hc856 := blk_cellv (v := .int .i64 0) (HS.out.at3) 5 rfl
          have hz857 := blk_fz (HS.out.at3) 5
          have hc858 := blk_cellv (v := .int .i64 0) (HS.out.at3) 6 rfl
          have hz859 := blk_fz (HS.out.at3) 6
          have hc860 := blk_cellv (v := .int .i64 0) (HS.out.at3) 7 rfl
          have hz861 := blk_fz (HS.out.at3) 7
          refine store_step (w1 := (World.setCell (World.setCell (World.setCell (World.setCell (World.setCell (World.setCell (World.setCell (World.setCell w844 ⟨g835, 0, none⟩ (.int .i64 t732)) ⟨g835, 1, none⟩ (.int .i64 (wrap64 (a572 - 8)))) ⟨g835, 2, none⟩ (.int .i64 0)) ⟨g835, 3, none⟩ (.int .i64 0)) ⟨g835, 4, none⟩ (.int .i64 0)) ⟨g835, 5, none⟩ (.int .i64 0)) ⟨g835, 6, none⟩ (.int .i64 0)) ⟨g835, 7, none⟩ (.int .i64 0))) (by rfl) rfl ?hr ?_
          case hr => first | (go_simp; done) | (go_simp; rfl)
          clear hc846 hz847 hc848 hz849 hc850 hz851 hc852 hz853 hc854 hz855 hc856 hz857 hc858 hz859 hc860 hz861
          intro w845 hst
          replace HS : Aside0 (Sep (fps []) w [b2 g575 a571 a572 a573 a574, b8 g578 0 0 0 0 0 0 0 0, b9 g758 a571 a572, b8 g835 t732 (wrap64 (a572 - 8)) 0 0 0 0 0 0, b10 g840 24 a573 t706] w845) := ⟨by rw [hst]; exact HS.out.setAll (l1 := [b2 g575 a571 a572 a573 a574, b8 g578 0 0 0 0 0 0 0 0, b9 g758 a571 a572]) (l2 := [b10 g840 24 a573 t706]) [.int .i64 t732, .int .i64 (wrap64 (a572 - 8)), .int .i64 0, .int .i64 0, .int .i64 0, .int .i64 0, .int .i64 0, .int .i64 0] rfl⟩
          clear hst
          refine hK.out _ _ (⟨blk_cellv (HS.out.at0) 2 rfl, blk_cellv (HS.out.at0) 0 rfl, blk_cellv (HS.out.at0) 1 rfl⟩) (fun hHeld => ?_)
          clear hK K
          refine done_ (by kernel_rfl) ?_
          go_wp2_with fail
          go_meet
          case rel => exact ⟨g758, g840, g835, (by first | rfl | (simp [IntKind.wrap_u32]; done)), ⟨(((((HS.out).front 3 (by simp)).front 4 (by simp)).front 4 (by simp)).front 4 (by simp)).front 4 (by simp)⟩⟩
      · refine box_step (by rfl) (N := 5) rfl (cs := #[.int .i64 0, .int .i64 0, .int .i64 0, .int .i64 0, .int .i64 0, .int .i64 0, .int .i64 0, .int .i64 0]) (t := 120) ?hr ?_
        case hr => first | (go_simp; done) | (go_simp; rfl)
        intro g862 hg w863 hbox hb
        replace HS : Aside0 (Sep (fps []) w [b2 g575 a571 a572 a573 a574, b8 g578 0 0 0 0 0 0 0 0, b8 g862 0 0 0 0 0 0 0 0] w863) := ⟨HS.out.box hg hbox hb⟩
        clear hg hbox hb
        refine hK.out _ _ (⟨blk_cellv (HS.out.at0) 2 rfl, blk_cellv (HS.out.at0) 0 rfl, blk_cellv (HS.out.at0) 1 rfl⟩) (fun hHeld => ?_)
        clear hK K
        refine norm_ (a' := ?_) ?_ ?_
        rotate_left
        · show Act.put _ (some 5) _ = _
          simp only [Act.put, List.setIfInBounds_toArray, List.set_cons_zero, List.set_cons_succ, i64_w, i32_w]
          rfl
        refine one_ (i := 6) (N := some 18) #[true, true, true, true, true, true, true, false, false, false, true, true, true, false, true, false] rfl rfl (by kernel_rfl) (by decide) (fun K hK => ?_)
        refine slice_step (n := 2) (by rfl) (N := 18) rfl (cs := #[.int .i64 a571, .int .i64 a572]) (t := 3) ?hr ?_
        case hr => first | (go_simp; done) | (go_simp; rfl)
        intro g865 hg w866 hbox hb
        replace HS : Aside0 (Sep (fps []) w [b2 g575 a571 a572 a573 a574, b8 g578 0 0 0 0 0 0 0 0, b8 g862 0 0 0 0 0 0 0 0, b9 g865 a571 a572] w866) := ⟨HS.out.box hg hbox hb⟩
        clear hg hbox hb
        refine hK.out _ _ (⟨blk_cellv (HS.out.at0) 2 rfl, blk_cellv (HS.out.at0) 0 rfl, blk_cellv (HS.out.at0) 1 rfl⟩) (fun hHeld => ?_)
        clear hK K
        refine norm_ (a' := ?_) ?_ ?_
        rotate_left
        · show Act.put _ (some 18) _ = _
          simp only [Act.put, List.setIfInBounds_toArray, List.set_cons_zero, List.set_cons_succ, i64_w, i32_w]
          rfl
        refine one_ (i := 7) (N := some 19) #[true, true, true, true, true, true, true, true, false, false, true, true, true, false, true, false] rfl rfl (by kernel_rfl) (by decide) (fun K hK => ?_)
        refine goes_ Try.func107 (by kernel_rfl) rfl #[.slice (some ⟨g865, 0, none⟩) 2 2] (by rfl) rfl rfl (by (try simp only [List.map_toArray, List.map_cons, List.map_nil]); first | done | rfl) ?_
        refine (ratio_Mul.calls _ [a571, a572] (some ⟨g865, 0, none⟩) 2 t706 _ ⟨Rd.lit (l := []) (xs := [a571, a572]) HS.out 3 rfl (by simp)⟩ ⟨Sep.start _⟩ HA707).mono ?_
        rintro e_ w869 ⟨rfl, hS⟩
        replace HS : Aside0 (Sep (fps []) w [b2 g575 a571 a572 a573 a574, b8 g578 0 0 0 0 0 0 0 0, b8 g862 0 0 0 0 0 0 0 0, b9 g865 a571 a572] w869) := ⟨HS.out.call hS⟩
        clear hS
        refine ⟨_, rfl, ?_⟩
        refine hK.out _ _ (⟨blk_cellv (HS.out.at0) 2 rfl, blk_cellv (HS.out.at0) 0 rfl, blk_cellv (HS.out.at0) 1 rfl⟩) (fun hHeld => ?_)
        clear hK K
        refine norm_ (a' := ?_) ?_ ?_
        rotate_left
        · show Act.put _ (some 19) _ = _
          simp only [Act.put, List.setIfInBounds_toArray, List.set_cons_zero, List.set_cons_succ, i64_w, i32_w]
          rfl
        refine one_ (i := 8) (N := some 20) #[true, true, true, true, true, true, true, true, true, false, true, true, true, false, true, false] rfl rfl (by kernel_rfl) (by decide) (fun K hK => ?_)
        refine slice_step (n := 3) (by rfl) (N := 20) rfl (cs := #[.int .i64 24, .int .i64 a573, .int .i64 t706]) (t := 3) ?hr ?_
        case hr => first | (go_simp; done) | (go_simp; rfl)
        intro g870 hg w871 hbox hb
        replace HS : Aside0 (Sep (fps []) w [b2 g575 a571 a572 a573 a574, b8 g578 0 0 0 0 0 0 0 0, b8 g862 0 0 0 0 0 0 0 0, b9 g865 a571 a572, b10 g870 24 a573 t706] w871) := ⟨HS.out.box hg hbox hb⟩
        clear hg hbox hb
        refine hK.out _ _ (⟨blk_cellv (HS.out.at0) 2 rfl, blk_cellv (HS.out.at0) 0 rfl, blk_cellv (HS.out.at0) 1 rfl⟩) (fun hHeld => ?_)
        clear hK K
        refine norm_ (a' := ?_) ?_ ?_
        rotate_left
        · show Act.put _ (some 20) _ = _
          simp only [Act.put, List.setIfInBounds_toArray, List.set_cons_zero, List.set_cons_succ, i64_w, i32_w]
          rfl
        refine one_ (i := 9) (N := some 21) #[true, true, true, true, true, true, true, true, true, true, true, true, true, false, true, false] rfl rfl (by kernel_rfl) (by decide) (fun K hK => ?_)
        refine goes_ Try.func106 (by kernel_rfl) rfl #[.slice (some ⟨g870, 0, none⟩) 3 3] (by rfl) rfl rfl (by (try simp only [List.map_toArray, List.map_cons, List.map_nil]); first | done | rfl) ?_
        refine (ratio_Add.calls _ [24, a573, t706] (some ⟨g870, 0, none⟩) 3 t732 _ ⟨Rd.lit (l := []) (xs := [24, a573, t706]) HS.out 4 rfl (by simp)⟩ ⟨Sep.start _⟩ HA733).mono ?_
        rintro e_ w874 ⟨rfl, hS⟩
        replace HS : Aside0 (Sep (fps []) w [b2 g575 a571 a572 a573 a574, b8 g578 0 0 0 0 0 0 0 0, b8 g862 0 0 0 0 0 0 0 0, b9 g865 a571 a572, b10 g870 24 a573 t706] w874) := ⟨HS.out.call hS⟩
        clear hS
        refine ⟨_, rfl, ?_⟩
        refine hK.out _ _ (⟨blk_cellv (HS.out.at0) 2 rfl, blk_cellv (HS.out.at0) 0 rfl, blk_cellv (HS.out.at0) 1 rfl⟩) (fun hHeld => ?_)
        clear hK K
        refine norm_ (a' := ?_) ?_ ?_
        rotate_left
        · show Act.put _ (some 21) _ = _
          simp only [Act.put, List.setIfInBounds_toArray, List.set_cons_zero, List.set_cons_succ, i64_w, i32_w]
          rfl
        refine pure_ (i := 13) (N := some 25) (v := ?_) (a' := ?_) #[true, true, true, true, true, true, true, true, true, true, true, true, true, true, true, false] rfl rfl (by kernel_rfl) (fun _ _ _ h => h) (Or.inl ⟨by rfl, ?_⟩) ?_ ?_
        rotate_left
        · intro w'
          go_simp
          with_reducible rfl
        rotate_left
        · simp only [Act.put, List.setIfInBounds_toArray, List.set_cons_zero, List.set_cons_succ, i64_w, i32_w]
          rfl
        refine one_ (i := 15) (N := none) #[true, true, true, true, true, true, true, true, true, true, true, true, true, true, true, true] rfl rfl (by kernel_rfl) (by decide) (fun K hK => ?_)
        have hc876 := blk_cellv (v := .int .i64 0) (HS.out.at2) 0 rfl
        have hz877 := blk_fz (HS.out.at2) 0
        have hc878 := blk_cellv (v := .int .i64 0) (HS.out.at2) 1 rfl
        have hz879 := blk_fz (HS.out.at2) 1
        have hc880 := blk_cellv (v := .int .i64 0) (HS.out.at2) 2 rfl
        have hz881 := blk_fz (HS.out.at2) 2
        have hc882 := blk_cellv (v := .int .i64 0) (HS.out.at2) 3 rfl
        have hz883 := blk_fz (HS.out.at2) 3
        have hc884 := blk_cellv (v := .int .i64 0) (HS.out.at2) 4 rfl
        have hz885 := blk_fz (HS.out.at2) 4
        have hc886 := blk_cellv (v := .int .i64 0) (HS.out.at2) 5 rfl
        have hz887 := blk_fz (HS.out.at2) 5
        have hc888 := blk_cellv (v := .int .i64 0) (HS.out.at2) 6 rfl
        have hz889 := blk_fz (HS.out.at2) 6
        have hc890 := blk_cellv (v := .int .i64 0) (HS.out.at2) 7 rfl
        have hz891 := blk_fz (HS.out.at2) 7
        refine store_step (w1 := (World.setCell (World.setCell (World.setCell (World.setCell (World.setCell (World.setCell (World.setCell (World.setCell w874 ⟨g862, 0, none⟩ (.int .i64 t732)) ⟨g862, 1, none⟩ (.int .i64 (wrap64 (a572 - 8)))) ⟨g862, 2, none⟩ (.int .i64 0)) ⟨g862, 3, none⟩ (.int .i64 0)) ⟨g862, 4, none⟩ (.int .i64 0)) ⟨g862, 5, none⟩ (.int .i64 0)) ⟨g862, 6, none⟩ (.int .i64 0)) ⟨g862, 7, none⟩ (.int .i64 0))) (by rfl) rfl ?hr ?_
        case hr => first | (go_simp; done) | (go_simp; rfl)
        clear hc876 hz877 hc878 hz879 hc880 hz881 hc882 hz883 hc884 hz885 hc886 hz887 hc888 hz889 hc890 hz891
        intro w875 hst
        replace HS : Aside0 (Sep (fps []) w [b2 g575 a571 a572 a573 a574, b8 g578 0 0 0 0 0 0 0 0, b8 g862 t732 (wrap64 (a572 - 8)) 0 0 0 0 0 0, b9 g865 a571 a572, b10 g870 24 a573 t706] w875) := ⟨by rw [hst]; exact HS.out.setAll (l1 := [b2 g575 a571 a572 a573 a574, b8 g578 0 0 0 0 0 0 0 0]) (l2 := [b9 g865 a571 a572, b10 g870 24 a573 t706]) [.int .i64 t732, .int .i64 (wrap64 (a572 - 8)), .int .i64 0, .int .i64 0, .int .i64 0, .int .i64 0, .int .i64 0, .int .i64 0] rfl⟩
        clear hst
        refine hK.out _ _ (⟨blk_cellv (HS.out.at0) 2 rfl, blk_cellv (HS.out.at0) 0 rfl, blk_cellv (HS.out.at0) 1 rfl⟩) (fun hHeld => ?_)
        clear hK K
        refine done_ (by kernel_rfl) ?_
        go_wp2_with fail
        go_meet
        case rel => exact ⟨g865, g870, g862, (by first | rfl | (simp [IntKind.wrap_u32]; done)), ⟨(((((HS.out).front 2 (by simp)).front 4 (by simp)).front 4 (by simp)).front 4 (by simp)).front 4 (by simp)⟩⟩
    case rest =>
      clear HS
      obtain ⟨g632, g709, g735, rfl, HS⟩ := hcut
      obtain ⟨w755, rfl⟩ : ∃ x : World, x = wc := ⟨_, rfl⟩
      replace HS : Aside0 (Sep (fps []) w [b2 g575 a571 a572 a573 a574, b8 g578 0 0 0 0 0 0 0 0, b8 g735 t732 (wrap64 (a572 - 8)) 0 0 0 0 0 0] w755) := ⟨HS.out.sub (.cons_cons _ (.cons_cons _ (.cons _ (.cons _ (.cons_cons _ .slnil)))))⟩
      have hc892 : w755.cell? ⟨g735, 1, none⟩ = some (.int .i64 (wrap64 (a572 - 8))) := blk_cellv (HS.out.at2) 1 rfl
      have hc893 : w755.cell? ⟨g735, 2, none⟩ = some (.int .i64 0) := blk_cellv (HS.out.at2) 2 rfl
      have hz894 : w755.frozen? ⟨g735, 2, none⟩ = false := blk_fz (HS.out.at2) 2
      go_wp2_with (first | ((with_reducible refine gate_store (t := 3) (p := 29) rfl ?_); refine store_event (w1 := (World.setCell w755 ⟨g735, 2, none⟩ (.int .i64 (wrap64 ((wrap64 (a572 - 8)) + 1))))) rfl (t := 3) (p := 29) rfl rfl ?hr ?_; (case hr => first | (go_simp; done) | (go_simp; rfl)); intro w895 hst; clear hc892 hc893 hz894; have hq0 : Sep (fps []) w [b2 g575 a571 a572 a573 a574, b8 g578 0 0 0 0 0 0 0 0, b8 g735 t732 (wrap64 (a572 - 8)) (wrap64 ((wrap64 (a572 - 8)) + 1)) 0 0 0 0 0] (World.setCell w755 ⟨g735, 2, none⟩ (.int .i64 (wrap64 ((wrap64 (a572 - 8)) + 1)))) := (HS.out).set1 (l1 := [b2 g575 a571 a572 a573 a574, b8 g578 0 0 0 0 0 0 0 0]) (l2 := []) 2 (.int .i64 (wrap64 ((wrap64 (a572 - 8)) + 1))); replace HS : Aside0 (Sep (fps []) w [b2 g575 a571 a572 a573 a574, b8 g578 0 0 0 0 0 0 0 0, b8 g735 t732 (wrap64 (a572 - 8)) (wrap64 ((wrap64 (a572 - 8)) + 1)) 0 0 0 0 0] w895) := ⟨by rw [hst]; exact hq0⟩; clear hq0; clear hst; have hc896 : w895.cell? ⟨g735, 1, none⟩ = some (.int .i64 (wrap64 (a572 - 8))) := blk_cellv (HS.out.at2) 1 rfl; have hc897 : w895.cell? ⟨g575, 1, none⟩ = some (.int .i64 a572) := blk_cellv (HS.out.at0) 1 rfl) | ((with_reducible refine gate_dst (N := 35) rfl ?_); refine slice_on (n := 2) ?hg (N := 35) ?hd (cs := #[.int .i64 (wrap64 (a572 - 8)), .int .i64 (wrap64 (a572 - 1))]) (t := 3) ?hr ?_; (case hd => rfl); (case hg => rfl); (case hr => first | (go_simp; done) | (go_simp; rfl)); intro g898 hg w899 hbox hb; clear hc896 hc897; replace HS : Aside0 (Sep (fps []) w [b2 g575 a571 a572 a573 a574, b8 g578 0 0 0 0 0 0 0 0, b8 g735 t732 (wrap64 (a572 - 8)) (wrap64 ((wrap64 (a572 - 8)) + 1)) 0 0 0 0 0, b9 g898 (wrap64 (a572 - 8)) (wrap64 (a572 - 1))] w899) := ⟨HS.out.box hg hbox hb⟩; clear hg hbox hb))
      obtain ⟨t901, HA902, H⟩ := bind_some H
      refine (ratio_Mul.calls _ [wrap64 (a572 - 8), wrap64 (a572 - 1)] (some ⟨g898, 0, none⟩) 2 t901 _ ⟨Rd.lit (l := []) (xs := [wrap64 (a572 - 8), wrap64 (a572 - 1)]) HS.out 3 rfl (by simp)⟩ ⟨Sep.start _⟩ HA902).mono ?_
      rintro e_ w903 ⟨rfl, hS⟩
      replace HS : Aside0 (Sep (fps []) w [b2 g575 a571 a572 a573 a574, b8 g578 0 0 0 0 0 0 0 0, b8 g735 t732 (wrap64 (a572 - 8)) (wrap64 ((wrap64 (a572 - 8)) + 1)) 0 0 0 0 0, b9 g898 (wrap64 (a572 - 8)) (wrap64 (a572 - 1))] w903) := ⟨HS.out.call hS⟩
      clear hS
      have hc904 : w903.cell? ⟨g735, 3, none⟩ = some (.int .i64 0) := blk_cellv (HS.out.at2) 3 rfl
      have hz905 : w903.frozen? ⟨g735, 3, none⟩ = false := blk_fz (HS.out.at2) 3
      go_wp2_with (first | ((with_reducible refine gate_store (t := 3) (p := 37) rfl ?_); refine store_event (w1 := (World.setCell w903 ⟨g735, 3, none⟩ (.int .i64 t901))) rfl (t := 3) (p := 37) rfl rfl ?hr ?_; (case hr => first | (go_simp; done) | (go_simp; rfl)); intro w906 hst; clear hc904 hz905; have hq0 : Sep (fps []) w [b2 g575 a571 a572 a573 a574, b8 g578 0 0 0 0 0 0 0 0, b8 g735 t732 (wrap64 (a572 - 8)) (wrap64 ((wrap64 (a572 - 8)) + 1)) t901 0 0 0 0, b9 g898 (wrap64 (a572 - 8)) (wrap64 (a572 - 1))] (World.setCell w903 ⟨g735, 3, none⟩ (.int .i64 t901)) := (HS.out).set1 (l1 := [b2 g575 a571 a572 a573 a574, b8 g578 0 0 0 0 0 0 0 0]) (l2 := [b9 g898 (wrap64 (a572 - 8)) (wrap64 (a572 - 1))]) 3 (.int .i64 t901); replace HS : Aside0 (Sep (fps []) w [b2 g575 a571 a572 a573 a574, b8 g578 0 0 0 0 0 0 0 0, b8 g735 t732 (wrap64 (a572 - 8)) (wrap64 ((wrap64 (a572 - 8)) + 1)) t901 0 0 0 0, b9 g898 (wrap64 (a572 - 8)) (wrap64 (a572 - 1))] w906) := ⟨by rw [hst]; exact hq0⟩; clear hq0; clear hst; replace HS : Aside0 (Sep (fps []) w [b2 g575 a571 a572 a573 a574, b8 g578 0 0 0 0 0 0 0 0, b8 g735 t732 (wrap64 (a572 - 8)) (wrap64 ((wrap64 (a572 - 8)) + 1)) t901 0 0 0 0] w906) := ⟨HS.out.sub (.cons_cons _ (.cons_cons _ (.cons_cons _ (.cons _ .slnil))))⟩; have hc907 : w906.cell? ⟨g575, 0, none⟩ = some (.int .i64 a571) := blk_cellv (HS.out.at0) 0 rfl; have hc908 : w906.cell? ⟨g575, 1, none⟩ = some (.int .i64 a572) := blk_cellv (HS.out.at0) 1 rfl) | ((with_reducible refine gate_dst (N := 43) rfl ?_); refine slice_on (n := 2) ?hg (N := 43) ?hd (cs := #[.int .i64 a571, .int .i64 (wrap64 (a572 + 1))]) (t := 3) ?hr ?_; (case hd => rfl); (case hg => rfl); (case hr => first | (go_simp; done) | (go_simp; rfl)); intro g909 hg w910 hbox hb; clear hc907 hc908; replace HS : Aside0 (Sep (fps []) w [b2 g575 a571 a572 a573 a574, b8 g578 0 0 0 0 0 0 0 0, b8 g735 t732 (wrap64 (a572 - 8)) (wrap64 ((wrap64 (a572 - 8)) + 1)) t901 0 0 0 0, b9 g909 a571 (wrap64 (a572 + 1))] w910) := ⟨HS.out.box hg hbox hb⟩; clear hg hbox hb))
      obtain ⟨t912, HA913, H⟩ := bind_some H
      refine (ratio_Mul.calls _ [a571, wrap64 (a572 + 1)] (some ⟨g909, 0, none⟩) 2 t912 _ ⟨Rd.lit (l := []) (xs := [a571, wrap64 (a572 + 1)]) HS.out 3 rfl (by simp)⟩ ⟨Sep.start _⟩ HA913).mono ?_
      rintro e_ w914 ⟨rfl, hS⟩
      replace HS : Aside0 (Sep (fps []) w [b2 g575 a571 a572 a573 a574, b8 g578 0 0 0 0 0 0 0 0, b8 g735 t732 (wrap64 (a572 - 8)) (wrap64 ((wrap64 (a572 - 8)) + 1)) t901 0 0 0 0, b9 g909 a571 (wrap64 (a572 + 1))] w914) := ⟨HS.out.call hS⟩
      clear hS
      have hc915 : w914.cell? ⟨g735, 5, none⟩ = some (.int .i64 0) := blk_cellv (HS.out.at2) 5 rfl
      have hz916 : w914.frozen? ⟨g735, 5, none⟩ = false := blk_fz (HS.out.at2) 5
      go_wp2_with (first | ((with_reducible refine gate_store (t := 3) (p := 45) rfl ?_); refine store_event (w1 := (World.setCell w914 ⟨g735, 5, none⟩ (.int .i64 t912))) rfl (t := 3) (p := 45) rfl rfl ?hr ?_; (case hr => first | (go_simp; done) | (go_simp; rfl)); intro w917 hst; clear hc915 hz916; have hq0 : Sep (fps []) w [b2 g575 a571 a572 a573 a574, b8 g578 0 0 0 0 0 0 0 0, b8 g735 t732 (wrap64 (a572 - 8)) (wrap64 ((wrap64 (a572 - 8)) + 1)) t901 0 t912 0 0, b9 g909 a571 (wrap64 (a572 + 1))] (World.setCell w914 ⟨g735, 5, none⟩ (.int .i64 t912)) := (HS.out).set1 (l1 := [b2 g575 a571 a572 a573 a574, b8 g578 0 0 0 0 0 0 0 0]) (l2 := [b9 g909 a571 (wrap64 (a572 + 1))]) 5 (.int .i64 t912); replace HS : Aside0 (Sep (fps []) w [b2 g575 a571 a572 a573 a574, b8 g578 0 0 0 0 0 0 0 0, b8 g735 t732 (wrap64 (a572 - 8)) (wrap64 ((wrap64 (a572 - 8)) + 1)) t901 0 t912 0 0, b9 g909 a571 (wrap64 (a572 + 1))] w917) := ⟨by rw [hst]; exact hq0⟩; clear hq0; clear hst; replace HS : Aside0 (Sep (fps []) w [b2 g575 a571 a572 a573 a574, b8 g578 0 0 0 0 0 0 0 0, b8 g735 t732 (wrap64 (a572 - 8)) (wrap64 ((wrap64 (a572 - 8)) + 1)) t901 0 t912 0 0] w917) := ⟨HS.out.sub (.cons_cons _ (.cons_cons _ (.cons_cons _ (.cons _ .slnil))))⟩; have hc918 : w917.cell? ⟨g735, 5, none⟩ = some (.int .i64 t912) := blk_cellv (HS.out.at2) 5 rfl) | ((with_reducible refine gate_dst (N := 48) rfl ?_); refine slice_on (n := 2) ?hg (N := 48) ?hd (cs := #[.int .i64 3, .int .i64 t912]) (t := 3) ?hr ?_; (case hd => rfl); (case hg => rfl); (case hr => first | (go_simp; done) | (go_simp; rfl)); intro g919 hg w920 hbox hb; clear hc918; replace HS : Aside0 (Sep (fps []) w [b2 g575 a571 a572 a573 a574, b8 g578 0 0 0 0 0 0 0 0, b8 g735 t732 (wrap64 (a572 - 8)) (wrap64 ((wrap64 (a572 - 8)) + 1)) t901 0 t912 0 0, b9 g919 3 t912] w920) := ⟨HS.out.box hg hbox hb⟩; clear hg hbox hb))
      obtain ⟨t922, HA923, H⟩ := bind_some H
      refine (ratio_Mul.calls _ [3, t912] (some ⟨g919, 0, none⟩) 2 t922 _ ⟨Rd.lit (l := []) (xs := [3, t912]) HS.out 3 rfl (by simp)⟩ ⟨Sep.start _⟩ HA923).mono ?_
      rintro e_ w924 ⟨rfl, hS⟩
      replace HS : Aside0 (Sep (fps []) w [b2 g575 a571 a572 a573 a574, b8 g578 0 0 0 0 0 0 0 0, b8 g735 t732 (wrap64 (a572 - 8)) (wrap64 ((wrap64 (a572 - 8)) + 1)) t901 0 t912 0 0, b9 g919 3 t912] w924) := ⟨HS.out.call hS⟩
      clear hS
      go_wp2_with (first | ((with_reducible refine gate_dst (N := 50) rfl ?_); refine slice_on (n := 2) ?hg (N := 50) ?hd (cs := #[.int .i64 t922, .int .i64 4]) (t := 3) ?hr ?_; (case hd => rfl); (case hg => rfl); (case hr => first | (go_simp; done) | (go_simp; rfl)); intro g925 hg w926 hbox hb; replace HS : Aside0 (Sep (fps []) w [b2 g575 a571 a572 a573 a574, b8 g578 0 0 0 0 0 0 0 0, b8 g735 t732 (wrap64 (a572 - 8)) (wrap64 ((wrap64 (a572 - 8)) + 1)) t901 0 t912 0 0, b9 g919 3 t912, b9 g925 t922 4] w926) := ⟨HS.out.box hg hbox hb⟩; clear hg hbox hb))
      obtain ⟨t928, HA929, H⟩ := bind_some H
      refine (ratio_Add.calls _ [t922, 4] (some ⟨g925, 0, none⟩) 2 t928 _ ⟨Rd.lit (l := []) (xs := [t922, 4]) HS.out 4 rfl (by simp)⟩ ⟨Sep.start _⟩ HA929).mono ?_
      rintro e_ w930 ⟨rfl, hS⟩
      replace HS : Aside0 (Sep (fps []) w [b2 g575 a571 a572 a573 a574, b8 g578 0 0 0 0 0 0 0 0, b8 g735 t732 (wrap64 (a572 - 8)) (wrap64 ((wrap64 (a572 - 8)) + 1)) t901 0 t912 0 0, b9 g919 3 t912, b9 g925 t922 4] w930) := ⟨HS.out.call hS⟩
      clear hS
      have hc931 : w930.cell? ⟨g735, 4, none⟩ = some (.int .i64 0) := blk_cellv (HS.out.at2) 4 rfl
      have hz932 : w930.frozen? ⟨g735, 4, none⟩ = false := blk_fz (HS.out.at2) 4
      go_wp2_with (first | ((with_reducible refine gate_store (t := 3) (p := 52) rfl ?_); refine store_event (w1 := (World.setCell w930 ⟨g735, 4, none⟩ (.int .i64 t928))) rfl (t := 3) (p := 52) rfl rfl ?hr ?_; (case hr => first | (go_simp; done) | (go_simp; rfl)); intro w933 hst; clear hc931 hz932; have hq0 : Sep (fps []) w [b2 g575 a571 a572 a573 a574, b8 g578 0 0 0 0 0 0 0 0, b8 g735 t732 (wrap64 (a572 - 8)) (wrap64 ((wrap64 (a572 - 8)) + 1)) t901 t928 t912 0 0, b9 g919 3 t912, b9 g925 t922 4] (World.setCell w930 ⟨g735, 4, none⟩ (.int .i64 t928)) := (HS.out).set1 (l1 := [b2 g575 a571 a572 a573 a574, b8 g578 0 0 0 0 0 0 0 0]) (l2 := [b9 g919 3 t912, b9 g925 t922 4]) 4 (.int .i64 t928); replace HS : Aside0 (Sep (fps []) w [b2 g575 a571 a572 a573 a574, b8 g578 0 0 0 0 0 0 0 0, b8 g735 t732 (wrap64 (a572 - 8)) (wrap64 ((wrap64 (a572 - 8)) + 1)) t901 t928 t912 0 0, b9 g919 3 t912, b9 g925 t922 4] w933) := ⟨by rw [hst]; exact hq0⟩; clear hq0; clear hst; replace HS : Aside0 (Sep (fps []) w [b2 g575 a571 a572 a573 a574, b8 g578 0 0 0 0 0 0 0 0, b8 g735 t732 (wrap64 (a572 - 8)) (wrap64 ((wrap64 (a572 - 8)) + 1)) t901 t928 t912 0 0] w933) := ⟨HS.out.sub (.cons_cons _ (.cons_cons _ (.cons_cons _ (.cons _ (.cons _ .slnil)))))⟩))
      obtain ⟨t953, HA954, H⟩ := bind_some H
      obtain ⟨t959, HA960, H⟩ := bind_some H
      obtain ⟨t965, HA966, H⟩ := bind_some H
      obtain ⟨t971, HA972, H⟩ := bind_some H
      go_cut [] (fun wc => ∃ (g956 : Nat) (g962 : Nat) (g968 : Nat), Aside0 (Sep (fps []) w [b2 g575 a571 a572 a573 a574, b8 g578 0 0 0 0 0 0 0 0, b8 g735 t732 (wrap64 (a572 - 8)) (wrap64 ((wrap64 (a572 - 8)) + 1)) t901 t928 t912 t971 0, b9 g956 2 t953, b9 g962 2 (wrap64 ((wrap64 (a572 - 8)) + 1)), b9 g968 t959 t965] wc))
      case first =>
        go_wp2_with fail
        refine start_ (n := 15) (S := (fun w' => w'.cell? ⟨g735, 4, none⟩ = some (.int .i64 t928) ∧ w'.cell? ⟨g575, 3, none⟩ = some (.int .i64 a574) ∧ w'.cell? ⟨g735, 2, none⟩ = some (.int .i64 (wrap64 ((wrap64 (a572 - 8)) + 1))))) (ds := []) #[false, false, false, false, false, false, false, false, false, false, false, false, false, false, false] (by kernel_rfl) rfl rfl (⟨blk_cellv ((HS.out.drew).at2) 4 rfl, blk_cellv ((HS.out.drew).at0) 3 rfl, blk_cellv ((HS.out.drew).at2) 2 rfl⟩) (fun hHeld => ?_)
        have HS_ := Aside0.mk HS.out.drew
        clear HS
        generalize World.drew _ = w979 at HS_ hHeld ⊢
        have HS := HS_
        clear HS_
        refine pure_ (i := 0) (N := some 53) (v := ?_) (a' := ?_) #[true, false, false, false, false, false, false, false, false, false, false, false, false, false, false] rfl rfl (by kernel_rfl) (fun _ _ _ h => h) (Or.inl ⟨by rfl, ?_⟩) ?_ ?_
        rotate_left
        · intro w'
          go_simp
          with_reducible rfl
        rotate_left
        · simp only [Act.put, List.setIfInBounds_toArray, List.set_cons_zero, List.set_cons_succ, i64_w, i32_w]
          rfl
        refine pure_ (i := 2) (N := some 55) (v := ?_) (a' := ?_) #[true, false, true, false, false, false, false, false, false, false, false, false, false, false, false] rfl rfl (by kernel_rfl) (fun _ _ _ h => h) (Or.inl ⟨by rfl, ?_⟩) ?_ ?_
        rotate_left
        · intro w'
          go_simp
          with_reducible rfl
        rotate_left
        · simp only [Act.put, List.setIfInBounds_toArray, List.set_cons_zero, List.set_cons_succ, i64_w, i32_w]
          rfl
        refine pure_ (i := 7) (N := some 60) (v := ?_) (a' := ?_) #[true, false, true, false, false, false, false, true, false, false, false, false, false, false, false] rfl rfl (by kernel_rfl) (fun _ _ _ h => h) (Or.inl ⟨by rfl, ?_⟩) ?_ ?_
        rotate_left
        · intro w'
          go_simp
          with_reducible rfl
        rotate_left
        · simp only [Act.put, List.setIfInBounds_toArray, List.set_cons_zero, List.set_cons_succ, i64_w, i32_w]
          rfl
        refine take_ (i := 1) (N := some 54) (v := ?_) (a' := ?_) #[true, true, true, false, false, false, false, true, false, false, false, false, false, false, false] rfl rfl (by kernel_rfl) (fun _ _ _ h => h) (Or.inl ⟨by rfl, ?_⟩) hHeld ?_ ?_
        rotate_left
        · rintro w' hS'
          obtain ⟨s0, s1, s2⟩ := hS'
          go_simp
          with_reducible rfl
        rotate_left
        · simp only [Act.put, List.setIfInBounds_toArray, List.set_cons_zero, List.set_cons_succ, i64_w, i32_w]
          rfl
        refine take_ (i := 3) (N := some 56) (v := ?_) (a' := ?_) #[true, true, true, true, false, false, false, true, false, false, false, false, false, false, false] rfl rfl (by kernel_rfl) (fun _ _ _ h => h) (Or.inl ⟨by rfl, ?_⟩) hHeld ?_ ?_
        rotate_left
        · rintro w' hS'
          obtain ⟨s0, s1, s2⟩ := hS'
          go_simp
          with_reducible rfl
        rotate_left
        · simp only [Act.put, List.setIfInBounds_toArray, List.set_cons_zero, List.set_cons_succ, i64_w, i32_w]
          rfl
        refine take_ (i := 8) (N := some 61) (v := ?_) (a' := ?_) #[true, true, true, true, false, false, false, true, true, false, false, false, false, false, false] rfl rfl (by kernel_rfl) (fun _ _ _ h => h) (Or.inl ⟨by rfl, ?_⟩) hHeld ?_ ?_
        rotate_left
        · rintro w' hS'
          obtain ⟨s0, s1, s2⟩ := hS'
          go_simp
          with_reducible rfl
        rotate_left
        · simp only [Act.put, List.setIfInBounds_toArray, List.set_cons_zero, List.set_cons_succ, i64_w, i32_w]
          rfl
        refine two_ (i := 4) (j := 9) (Ni := some 57) (Nj := some 62) #[true, true, true, true, true, false, false, true, true, false, false, false, false, false, false] #[true, true, true, true, false, false, false, true, true, true, false, false, false, false, false] rfl rfl rfl rfl (by kernel_rfl) (by decide) (by decide) (fun K hK => ?_) (fun K hK => ?_)
        · refine goes_ Try.func108 (by kernel_rfl) rfl #[.int .i64 t928, .int .i64 a574] (by rfl) rfl rfl (by (try simp only [List.map_toArray, List.map_cons, List.map_nil]); first | done | rfl) ?_
          refine (ratio_Up.calls t928 a574 t953 _ ⟨Sep.start _⟩ HA954).mono ?_
          rintro e_ w981 ⟨rfl, hS⟩
          replace HS : Aside0 (Sep (fps []) w [b2 g575 a571 a572 a573 a574, b8 g578 0 0 0 0 0 0 0 0, b8 g735 t732 (wrap64 (a572 - 8)) (wrap64 ((wrap64 (a572 - 8)) + 1)) t901 t928 t912 0 0] w981) := ⟨HS.out.call hS⟩
          clear hS
          refine ⟨_, rfl, ?_⟩
          refine hK.out _ _ (⟨blk_cellv (HS.out.at2) 4 rfl, blk_cellv (HS.out.at0) 3 rfl, blk_cellv (HS.out.at2) 2 rfl⟩) (fun hHeld => ?_)
          clear hK K
          refine norm_ (a' := ?_) ?_ ?_
          rotate_left
          · show Act.put _ (some 57) _ = _
            simp only [Act.put, List.setIfInBounds_toArray, List.set_cons_zero, List.set_cons_succ, i64_w, i32_w]
            rfl
          refine two_ (i := 5) (j := 9) (Ni := some 58) (Nj := some 62) #[true, true, true, true, true, true, false, true, true, false, false, false, false, false, false] #[true, true, true, true, true, false, false, true, true, true, false, false, false, false, false] rfl rfl rfl rfl (by kernel_rfl) (by decide) (by decide) (fun K hK => ?_) (fun K hK => ?_)
          · refine slice_step (n := 2) (by rfl) (N := 58) rfl (cs := #[.int .i64 2, .int .i64 t953]) (t := 3) ?hr ?_
            case hr => first | (go_simp; done) | (go_simp; rfl)
            intro g982 hg w983 hbox hb
            replace HS : Aside0 (Sep (fps []) w [b2 g575 a571 a572 a573 a574, b8 g578 0 0 0 0 0 0 0 0, b8 g735 t732 (wrap64 (a572 - 8)) (wrap64 ((wrap64 (a572 - 8)) + 1)) t901 t928 t912 0 0, b9 g982 2 t953] w983) := ⟨HS.out.box hg hbox hb⟩
            clear hg hbox hb
            refine hK.out _ _ (⟨blk_cellv (HS.out.at2) 4 rfl, blk_cellv (HS.out.at0) 3 rfl, blk_cellv (HS.out.at2) 2 rfl⟩) (fun hHeld => ?_)
            clear hK K
            refine norm_ (a' := ?_) ?_ ?_
            rotate_left
            · show Act.put _ (some 58) _ = _
              simp only [Act.put, List.setIfInBounds_toArray, List.set_cons_zero, List.set_cons_succ, i64_w, i32_w]
              rfl
            refine two_ (i := 6) (j := 9) (Ni := some 59) (Nj := some 62) #[true, true, true, true, true, true, true, true, true, false, false, false, false, false, false] #[true, true, true, true, true, true, false, true, true, true, false, false, false, false, false] rfl rfl rfl rfl (by kernel_rfl) (by decide) (by decide) (fun K hK => ?_) (fun K hK => ?_)
            · refine goes_ Try.func107 (by kernel_rfl) rfl #[.slice (some ⟨g982, 0, none⟩) 2 2] (by rfl) rfl rfl (by (try simp only [List.map_toArray, List.map_cons, List.map_nil]); first | done | rfl) ?_
              refine (ratio_Mul.calls _ [2, t953] (some ⟨g982, 0, none⟩) 2 t959 _ ⟨Rd.lit (l := []) (xs := [2, t953]) HS.out 3 rfl (by simp)⟩ ⟨Sep.start _⟩ HA960).mono ?_
              rintro e_ w986 ⟨rfl, hS⟩
              replace HS : Aside0 (Sep (fps []) w [b2 g575 a571 a572 a573 a574, b8 g578 0 0 0 0 0 0 0 0, b8 g735 t732 (wrap64 (a572 - 8)) (wrap64 ((wrap64 (a572 - 8)) + 1)) t901 t928 t912 0 0, b9 g982 2 t953] w986) := ⟨HS.out.call hS⟩
              clear hS
              refine ⟨_, rfl, ?_⟩
              refine hK.out _ _ (⟨blk_cellv (HS.out.at2) 4 rfl, blk_cellv (HS.out.at0) 3 rfl, blk_cellv (HS.out.at2) 2 rfl⟩) (fun hHeld => ?_)
              clear hK K
              refine norm_ (a' := ?_) ?_ ?_
              rotate_left
              · show Act.put _ (some 59) _ = _
                simp only [Act.put, List.setIfInBounds_toArray, List.set_cons_zero, List.set_cons_succ, i64_w, i32_w]
                rfl
              refine one_ (i := 9) (N := some 62) #[true, true, true, true, true, true, true, true, true, true, false, false, false, false, false] rfl rfl (by kernel_rfl) (by decide) (fun K hK => ?_)
              refine slice_step (n := 2) (by rfl) (N := 62) rfl (cs := #[.int .i64 2, .int .i64 (wrap64 ((wrap64 (a572 - 8)) + 1))]) (t := 3) ?hr ?_
              case hr => first | (go_simp; done) | (go_simp; rfl)
              intro g987 hg w988 hbox hb
              replace HS : Aside0 (Sep (fps []) w [b2 g575 a571 a572 a573 a574, b8 g578 0 0 0 0 0 0 0 0, b8 g735 t732 (wrap64 (a572 - 8)) (wrap64 ((wrap64 (a572 - 8)) + 1)) t901 t928 t912 0 0, b9 g982 2 t953, b9 g987 2 (wrap64 ((wrap64 (a572 - 8)) + 1))] w988) := ⟨HS.out.box hg hbox hb⟩
              clear hg hbox hb
              refine hK.out _ _ (⟨blk_cellv (HS.out.at2) 4 rfl, blk_cellv (HS.out.at0) 3 rfl, blk_cellv (HS.out.at2) 2 rfl⟩) (fun hHeld => ?_)
              clear hK K
              refine norm_ (a' := ?_) ?_ ?_
              rotate_left
              · show Act.put _ (some 62) _ = _
                simp only [Act.put, List.setIfInBounds_toArray, List.set_cons_zero, List.set_cons_succ, i64_w, i32_w]
                rfl
              refine one_ (i := 10) (N := some 63) #[true, true, true, true, true, true, true, true, true, true, true, false, false, false, false] rfl rfl (by kernel_rfl) (by decide) (fun K hK => ?_)
              refine goes_ Try.func107 (by kernel_rfl) rfl #[.slice (some ⟨g987, 0, none⟩) 2 2] (by rfl) rfl rfl (by (try simp only [List.map_toArray, List.map_cons, List.map_nil]); first | done | rfl) ?_
              refine (ratio_Mul.calls _ [2, wrap64 ((wrap64 (a572 - 8)) + 1)] (some ⟨g987, 0, none⟩) 2 t965 _ ⟨Rd.lit (l := []) (xs := [2, wrap64 ((wrap64 (a572 - 8)) + 1)]) HS.out 4 rfl (by simp)⟩ ⟨Sep.start _⟩ HA966).mono ?_
              rintro e_ w991 ⟨rfl, hS⟩
              replace HS : Aside0 (Sep (fps []) w [b2 g575 a571 a572 a573 a574, b8 g578 0 0 0 0 0 0 0 0, b8 g735 t732 (wrap64 (a572 - 8)) (wrap64 ((wrap64 (a572 - 8)) + 1)) t901 t928 t912 0 0, b9 g982 2 t953, b9 g987 2 (wrap64 ((wrap64 (a572 - 8)) + 1))] w991) := ⟨HS.out.call hS⟩
              clear hS
              refine ⟨_, rfl, ?_⟩
              refine hK.out _ _ (⟨blk_cellv (HS.out.at2) 4 rfl, blk_cellv (HS.out.at0) 3 rfl, blk_cellv (HS.out.at2) 2 rfl⟩) (fun hHeld => ?_)
              clear hK K
              refine norm_ (a' := ?_) ?_ ?_
              rotate_left
              · show Act.put _ (some 63) _ = _
                simp only [Act.put, List.setIfInBounds_toArray, List.set_cons_zero, List.set_cons_succ, i64_w, i32_w]
                rfl
              refine one_ (i := 11) (N := some 64) #[true, true, true, true, true, true, true, true, true, true, true, true, false, false, false] rfl rfl (by kernel_rfl) (by decide) (fun K hK => ?_)
              refine slice_step (n := 2) (by rfl) (N := 64) rfl (cs := #[.int .i64 t959, .int .i64 t965]) (t := 3) ?hr ?_
              case hr => first | (go_simp; done) | (go_simp; rfl)
              intro g992 hg w993 hbox hb
              replace HS : Aside0 (Sep (fps []) w [b2 g575 a571 a572 a573 a574, b8 g578 0 0 0 0 0 0 0 0, b8 g735 t732 (wrap64 (a572 - 8)) (wrap64 ((wrap64 (a572 - 8)) + 1)) t901 t928 t912 0 0, b9 g982 2 t953, b9 g987 2 (wrap64 ((wrap64 (a572 - 8)) + 1)), b9 g992 t959 t965] w993) := ⟨HS.out.box hg hbox hb⟩
              clear hg hbox hb
              refine hK.out _ _ (⟨blk_cellv (HS.out.at2) 4 rfl, blk_cellv (HS.out.at0) 3 rfl, blk_cellv (HS.out.at2) 2 rfl⟩) (fun hHeld => ?_)
              clear hK K
              refine norm_ (a' := ?_) ?_ ?_
              rotate_left
              · show Act.put _ (some 64) _ = _
                simp only [Act.put, List.setIfInBounds_toArray, List.set_cons_zero, List.set_cons_succ, i64_w, i32_w]
                rfl
              refine one_ (i := 12) (N := some 65) #[true, true, true, true, true, true, true, true, true, true, true, true, true, false, false] rfl rfl (by kernel_rfl) (by decide) (fun K hK => ?_)
              refine goes_ Try.func106 (by kernel_rfl) rfl #[.slice (some ⟨g992, 0, none⟩) 2 2] (by rfl) rfl rfl (by (try simp only [List.map_toArray, List.map_cons, List.map_nil]); first | done | rfl) ?_
              refine (ratio_Add.calls _ [t959, t965] (some ⟨g992, 0, none⟩) 2 t971 _ ⟨Rd.lit (l := []) (xs := [t959, t965]) HS.out 5 rfl (by simp)⟩ ⟨Sep.start _⟩ HA972).mono ?_
              rintro e_ w996 ⟨rfl, hS⟩
              replace HS : Aside0 (Sep (fps []) w [b2 g575 a571 a572 a573 a574, b8 g578 0 0 0 0 0 0 0 0, b8 g735 t732 (wrap64 (a572 - 8)) (wrap64 ((wrap64 (a572 - 8)) + 1)) t901 t928 t912 0 0, b9 g982 2 t953, b9 g987 2 (wrap64 ((wrap64 (a572 - 8)) + 1)), b9 g992 t959 t965] w996) := ⟨HS.out.call hS⟩
              clear hS
              refine ⟨_, rfl, ?_⟩
              refine hK.out _ _ (⟨blk_cellv (HS.out.at2) 4 rfl, blk_cellv (HS.out.at0) 3 rfl, blk_cellv (HS.out.at2) 2 rfl⟩) (fun hHeld => ?_)
              clear hK K
              refine norm_ (a' := ?_) ?_ ?_
              rotate_left
              · show Act.put _ (some 65) _ = _
                simp only [Act.put, List.setIfInBounds_toArray, List.set_cons_zero, List.set_cons_succ, i64_w, i32_w]
                rfl
              refine pure_ (i := 13) (N := some 66) (v := ?_) (a' := ?_) #[true, true, true, true, true, true, true, true, true, true, true, true, true, true, false] rfl rfl (by kernel_rfl) (fun _ _ _ h => h) (Or.inl ⟨by rfl, ?_⟩) ?_ ?_
              rotate_left
              · intro w'
                go_simp
                with_reducible rfl
              rotate_left
              · simp only [Act.put, List.setIfInBounds_toArray, List.set_cons_zero, List.set_cons_succ, i64_w, i32_w]
                rfl
              refine one_ (i := 14) (N := none) #[true, true, true, true, true, true, true, true, true, true, true, true, true, true, true] rfl rfl (by kernel_rfl) (by decide) (fun K hK => ?_)
              have hc998 := blk_cellv (v := .int .i64 0) (HS.out.at2) 6 rfl
              have hz999 := blk_fz (HS.out.at2) 6
              refine store_step (w1 := (World.setCell w996 ⟨g735, 6, none⟩ (.int .i64 t971))) (by rfl) rfl ?hr ?_
              case hr => first | (go_simp; done) | (go_simp; rfl)
              clear hc998 hz999
              intro w997 hst
              have hq0 : Sep (fps []) w [b2 g575 a571 a572 a573 a574, b8 g578 0 0 0 0 0 0 0 0, b8 g735 t732 (wrap64 (a572 - 8)) (wrap64 ((wrap64 (a572 - 8)) + 1)) t901 t928 t912 t971 0, b9 g982 2 t953, b9 g987 2 (wrap64 ((wrap64 (a572 - 8)) + 1)), b9 g992 t959 t965] (World.setCell w996 ⟨g735, 6, none⟩ (.int .i64 t971)) := (HS.out).set1 (l1 := [b2 g575 a571 a572 a573 a574, b8 g578 0 0 0 0 0 0 0 0]) (l2 := [b9 g982 2 t953, b9 g987 2 (wrap64 ((wrap64 (a572 - 8)) + 1)), b9 g992 t959 t965]) 6 (.int .i64 t971)
              have HS_ : Aside0 (Sep (fps []) w [b2 g575 a571 a572 a573 a574, b8 g578 0 0 0 0 0 0 0 0, b8 g735 t732 (wrap64 (a572 - 8)) (wrap64 ((wrap64 (a572 - 8)) + 1)) t901 t928 t912 t971 0, b9 g982 2 t953, b9 g987 2 (wrap64 ((wrap64 (a572 - 8)) + 1)), b9 g992 t959 t965] w997) := ⟨by rw [hst]; exact hq0⟩
              clear hq0
              clear HS hst
              have HS := HS_
              clear HS_
              refine hK.out _ _ (⟨blk_cellv (HS.out.at2) 4 rfl, blk_cellv (HS.out.at0) 3 rfl, blk_cellv (HS.out.at2) 2 rfl⟩) (fun hHeld => ?_)
              clear hK K
              refine done_ (by kernel_rfl) ?_
              go_wp2_with fail
              go_meet
              case rel => exact ⟨g982, g987, g992, ⟨((((((HS.out).front 5 (by simp)).front 5 (by simp)).front 5 (by simp)).front 5 (by simp)).front 5 (by simp)).front 5 (by simp)⟩⟩
            · refine slice_step (n := 2) (by rfl) (N := 62) rfl (cs := #[.int .i64 2, .int .i64 (wrap64 ((wrap64 (a572 - 8)) + 1))]) (t := 3) ?hr ?_
              case hr => first | (go_simp; done) | (go_simp; rfl)
              intro g1000 hg w1001 hbox hb
              replace HS : Aside0 (Sep (fps []) w [b2 g575 a571 a572 a573 a574, b8 g578 0 0 0 0 0 0 0 0, b8 g735 t732 (wrap64 (a572 - 8)) (wrap64 ((wrap64 (a572 - 8)) + 1)) t901 t928 t912 0 0, b9 g982 2 t953, b9 g1000 2 (wrap64 ((wrap64 (a572 - 8)) + 1))] w1001) := ⟨HS.out.box hg hbox hb⟩
              clear hg hbox hb
              refine hK.out _ _ (⟨blk_cellv (HS.out.at2) 4 rfl, blk_cellv (HS.out.at0) 3 rfl, blk_cellv (HS.out.at2) 2 rfl⟩) (fun hHeld => ?_)
              clear hK K
              refine norm_ (a' := ?_) ?_ ?_
              rotate_left
              · show Act.put _ (some 62) _ = _
                simp only [Act.put, List.setIfInBounds_toArray, List.set_cons_zero, List.set_cons_succ, i64_w, i32_w]
                rfl
              refine one_ (i := 6) (N := some 59) #[true, true, true, true, true, true, true, true, true, true, false, false, false, false, false] rfl rfl (by kernel_rfl) (by decide) (fun K hK => ?_)
              refine goes_ Try.func107 (by kernel_rfl) rfl #[.slice (some ⟨g982, 0, none⟩) 2 2] (by rfl) rfl rfl (by (try simp only [List.map_toArray, List.map_cons, List.map_nil]); first | done | rfl) ?_
              refine (ratio_Mul.calls _ [2, t953] (some ⟨g982, 0, none⟩) 2 t959 _ ⟨Rd.lit (l := []) (xs := [2, t953]) HS.out 3 rfl (by simp)⟩ ⟨Sep.start _⟩ HA960).mono ?_
              rintro e_ w1004 ⟨rfl, hS⟩
              replace HS : Aside0 (Sep (fps []) w [b2 g575 a571 a572 a573 a574, b8 g578 0 0 0 0 0 0 0 0, b8 g735 t732 (wrap64 (a572 - 8)) (wrap64 ((wrap64 (a572 - 8)) + 1)) t901 t928 t912 0 0, b9 g982 2 t953, b9 g1000 2 (wrap64 ((wrap64 (a572 - 8)) + 1))] w1004) := ⟨HS.out.call hS⟩
              clear hS
              refine ⟨_, rfl, ?_⟩
              refine hK.out _ _ (⟨blk_cellv (HS.out.at2) 4 rfl, blk_cellv (HS.out.at0) 3 rfl, blk_cellv (HS.out.at2) 2 rfl⟩) (fun hHeld => ?_)
              clear hK K
              refine norm_ (a' := ?_) ?_ ?_
              rotate_left
              · show Act.put _ (some 59) _ = _
                simp only [Act.put, List.setIfInBounds_toArray, List.set_cons_zero, List.set_cons_succ, i64_w, i32_w]
                rfl
              refine one_ (i := 10) (N := some 63) #[true, true, true, true, true, true, true, true, true, true, true, false, false, false, false] rfl rfl (by kernel_rfl) (by decide) (fun K hK => ?_)
              refine goes_ Try.func107 (by kernel_rfl) rfl #[.slice (some ⟨g1000, 0, none⟩) 2 2] (by rfl) rfl rfl (by (try simp only [List.map_toArray, List.map_cons, List.map_nil]); first | done | rfl) ?_
              refine (ratio_Mul.calls _ [2, wrap64 ((wrap64 (a572 - 8)) + 1)] (some ⟨g1000, 0, none⟩) 2 t965 _ ⟨Rd.lit (l := []) (xs := [2, wrap64 ((wrap64 (a572 - 8)) + 1)]) HS.out 4 rfl (by simp)⟩ ⟨Sep.start _⟩ HA966).mono ?_
              rintro e_ w1006 ⟨rfl, hS⟩
              replace HS : Aside0 (Sep (fps []) w [b2 g575 a571 a572 a573 a574, b8 g578 0 0 0 0 0 0 0 0, b8 g735 t732 (wrap64 (a572 - 8)) (wrap64 ((wrap64 (a572 - 8)) + 1)) t901 t928 t912 0 0, b9 g982 2 t953, b9 g1000 2 (wrap64 ((wrap64 (a572 - 8)) + 1))] w1006) := ⟨HS.out.call hS⟩
              clear hS
              refine ⟨_, rfl, ?_⟩
              refine hK.out _ _ (⟨blk_cellv (HS.out.at2) 4 rfl, blk_cellv (HS.out.at0) 3 rfl, blk_cellv (HS.out.at2) 2 rfl⟩) (fun hHeld => ?_)
              clear hK K
              refine norm_ (a' := ?_) ?_ ?_
              rotate_left
              · show Act.put _ (some 63) _ = _
                simp only [Act.put, List.setIfInBounds_toArray, List.set_cons_zero, List.set_cons_succ, i64_w, i32_w]
                rfl
              refine one_ (i := 11) (N := some 64) #[true, true, true, true, true, true, true, true, true, true, true, true, false, false, false] rfl rfl (by kernel_rfl) (by decide) (fun K hK => ?_)
              refine slice_step (n := 2) (by rfl) (N := 64) rfl (cs := #[.int .i64 t959, .int .i64 t965]) (t := 3) ?hr ?_
              case hr => first | (go_simp; done) | (go_simp; rfl)
              intro g1007 hg w1008 hbox hb
              replace HS : Aside0 (Sep (fps []) w [b2 g575 a571 a572 a573 a574, b8 g578 0 0 0 0 0 0 0 0, b8 g735 t732 (wrap64 (a572 - 8)) (wrap64 ((wrap64 (a572 - 8)) + 1)) t901 t928 t912 0 0, b9 g982 2 t953, b9 g1000 2 (wrap64 ((wrap64 (a572 - 8)) + 1)), b9 g1007 t959 t965] w1008) := ⟨HS.out.box hg hbox hb⟩
              clear hg hbox hb
              refine hK.out _ _ (⟨blk_cellv (HS.out.at2) 4 rfl, blk_cellv (HS.out.at0) 3 rfl, blk_cellv (HS.out.at2) 2 rfl⟩) (fun hHeld => ?_)
              clear hK K
              refine norm_ (a' := ?_) ?_ ?_
              rotate_left
              · show Act.put _ (some 64) _ = _
                simp only [Act.put, List.setIfInBounds_toArray, List.set_cons_zero, List.set_cons_succ, i64_w, i32_w]
                rfl
              refine one_ (i := 12) (N := some 65) #[true, true, true, true, true, true, true, true, true, true, true, true, true, false, false] rfl rfl (by kernel_rfl) (by decide) (fun K hK => ?_)
              refine goes_ Try.func106 (by kernel_rfl) rfl #[.slice (some ⟨g1007, 0, none⟩) 2 2] (by rfl) rfl rfl (by (try simp only [List.map_toArray, List.map_cons, List.map_nil]); first | done | rfl) ?_
              refine (ratio_Add.calls _ [t959, t965] (some ⟨g1007, 0, none⟩) 2 t971 _ ⟨Rd.lit (l := []) (xs := [t959, t965]) HS.out 5 rfl (by simp)⟩ ⟨Sep.start _⟩ HA972).mono ?_
              rintro e_ w1011 ⟨rfl, hS⟩
              replace HS : Aside0 (Sep (fps []) w [b2 g575 a571 a572 a573 a574, b8 g578 0 0 0 0 0 0 0 0, b8 g735 t732 (wrap64 (a572 - 8)) (wrap64 ((wrap64 (a572 - 8)) + 1)) t901 t928 t912 0 0, b9 g982 2 t953, b9 g1000 2 (wrap64 ((wrap64 (a572 - 8)) + 1)), b9 g1007 t959 t965] w1011) := ⟨HS.out.call hS⟩
              clear hS
              refine ⟨_, rfl, ?_⟩
              refine hK.out _ _ (⟨blk_cellv (HS.out.at2) 4 rfl, blk_cellv (HS.out.at0) 3 rfl, blk_cellv (HS.out.at2) 2 rfl⟩) (fun hHeld => ?_)
              clear hK K
              refine norm_ (a' := ?_) ?_ ?_
              rotate_left
              · show Act.put _ (some 65) _ = _
                simp only [Act.put, List.setIfInBounds_toArray, List.set_cons_zero, List.set_cons_succ, i64_w, i32_w]
                rfl
              refine pure_ (i := 13) (N := some 66) (v := ?_) (a' := ?_) #[true, true, true, true, true, true, true, true, true, true, true, true, true, true, false] rfl rfl (by kernel_rfl) (fun _ _ _ h => h) (Or.inl ⟨by rfl, ?_⟩) ?_ ?_
              rotate_left
              · intro w'
                go_simp
                with_reducible rfl
              rotate_left
              · simp only [Act.put, List.setIfInBounds_toArray, List.set_cons_zero, List.set_cons_succ, i64_w, i32_w]
                rfl
              refine one_ (i := 14) (N := none) #[true, true, true, true, true, true, true, true, true, true, true, true, true, true, true] rfl rfl (by kernel_rfl) (by decide) (fun K hK => ?_)
              have hc1013 := blk_cellv (v := .int .i64 0) (HS.out.at2) 6 rfl
              have hz1014 := blk_fz (HS.out.at2) 6
              refine store_step (w1 := (World.setCell w1011 ⟨g735, 6, none⟩ (.int .i64 t971))) (by rfl) rfl ?hr ?_
              case hr => first | (go_simp; done) | (go_simp; rfl)
              clear hc1013 hz1014
              intro w1012 hst
              have hq0 : Sep (fps []) w [b2 g575 a571 a572 a573 a574, b8 g578 0 0 0 0 0 0 0 0, b8 g735 t732 (wrap64 (a572 - 8)) (wrap64 ((wrap64 (a572 - 8)) + 1)) t901 t928 t912 t971 0, b9 g982 2 t953, b9 g1000 2 (wrap64 ((wrap64 (a572 - 8)) + 1)), b9 g1007 t959 t965] (World.setCell w1011 ⟨g735, 6, none⟩ (.int .i64 t971)) := (HS.out).set1 (l1 := [b2 g575 a571 a572 a573 a574, b8 g578 0 0 0 0 0 0 0 0]) (l2 := [b9 g982 2 t953, b9 g1000 2 (wrap64 ((wrap64 (a572 - 8)) + 1)), b9 g1007 t959 t965]) 6 (.int .i64 t971)
              have HS_ : Aside0 (Sep (fps []) w [b2 g575 a571 a572 a573 a574, b8 g578 0 0 0 0 0 0 0 0, b8 g735 t732 (wrap64 (a572 - 8)) (wrap64 ((wrap64 (a572 - 8)) + 1)) t901 t928 t912 t971 0, b9 g982 2 t953, b9 g1000 2 (wrap64 ((wrap64 (a572 - 8)) + 1)), b9 g1007 t959 t965] w1012) := ⟨by rw [hst]; exact hq0⟩
              clear hq0
              clear HS hst
              have HS := HS_
              clear HS_
              refine hK.out _ _ (⟨blk_cellv (HS.out.at2) 4 rfl, blk_cellv (HS.out.at0) 3 rfl, blk_cellv (HS.out.at2) 2 rfl⟩) (fun hHeld => ?_)
              clear hK K
              refine done_ (by kernel_rfl) ?_
              go_wp2_with fail
              go_meet
              case rel => exact ⟨g982, g1000, g1007, ⟨((((((HS.out).front 5 (by simp)).front 5 (by simp)).front 5 (by simp)).front 5 (by simp)).front 5 (by simp)).front 5 (by simp)⟩⟩
          · refine slice_step (n := 2) (by rfl) (N := 62) rfl (cs := #[.int .i64 2, .int .i64 (wrap64 ((wrap64 (a572 - 8)) + 1))]) (t := 3) ?hr ?_
            case hr => first | (go_simp; done) | (go_simp; rfl)
            intro g1015 hg w1016 hbox hb
            replace HS : Aside0 (Sep (fps []) w [b2 g575 a571 a572 a573 a574, b8 g578 0 0 0 0 0 0 0 0, b8 g735 t732 (wrap64 (a572 - 8)) (wrap64 ((wrap64 (a572 - 8)) + 1)) t901 t928 t912 0 0, b9 g1015 2 (wrap64 ((wrap64 (a572 - 8)) + 1))] w1016) := ⟨HS.out.box hg hbox hb⟩
            clear hg hbox hb
            refine hK.out _ _ (⟨blk_cellv (HS.out.at2) 4 rfl, blk_cellv (HS.out.at0) 3 rfl, blk_cellv (HS.out.at2) 2 rfl⟩) (fun hHeld => ?_)
            clear hK K
            refine norm_ (a' := ?_) ?_ ?_
            rotate_left
            · show Act.put _ (some 62) _ = _
              simp only [Act.put, List.setIfInBounds_toArray, List.set_cons_zero, List.set_cons_succ, i64_w, i32_w]
              rfl
            refine one_ (i := 5) (N := some 58) #[true, true, true, true, true, true, false, true, true, true, false, false, false, false, false] rfl rfl (by kernel_rfl) (by decide) (fun K hK => ?_)
            refine slice_step (n := 2) (by rfl) (N := 58) rfl (cs := #[.int .i64 2, .int .i64 t953]) (t := 3) ?hr ?_
            case hr => first | (go_simp; done) | (go_simp; rfl)
            intro g1018 hg w1019 hbox hb
            replace HS : Aside0 (Sep (fps []) w [b2 g575 a571 a572 a573 a574, b8 g578 0 0 0 0 0 0 0 0, b8 g735 t732 (wrap64 (a572 - 8)) (wrap64 ((wrap64 (a572 - 8)) + 1)) t901 t928 t912 0 0, b9 g1015 2 (wrap64 ((wrap64 (a572 - 8)) + 1)), b9 g1018 2 t953] w1019) := ⟨HS.out.box hg hbox hb⟩
            clear hg hbox hb
            refine hK.out _ _ (⟨blk_cellv (HS.out.at2) 4 rfl, blk_cellv (HS.out.at0) 3 rfl, blk_cellv (HS.out.at2) 2 rfl⟩) (fun hHeld => ?_)
            clear hK K
            refine norm_ (a' := ?_) ?_ ?_
            rotate_left
            · show Act.put _ (some 58) _ = _
              simp only [Act.put, List.setIfInBounds_toArray, List.set_cons_zero, List.set_cons_succ, i64_w, i32_w]
              rfl
            refine one_ (i := 6) (N := some 59) #[true, true, true, true, true, true, true, true, true, true, false, false, false, false, false] rfl rfl (by kernel_rfl) (by decide) (fun K hK => ?_)
            refine goes_ Try.func107 (by kernel_rfl) rfl #[.slice (some ⟨g1018, 0, none⟩) 2 2] (by rfl) rfl rfl (by (try simp only [List.map_toArray, List.map_cons, List.map_nil]); first | done | rfl) ?_
            refine (ratio_Mul.calls _ [2, t953] (some ⟨g1018, 0, none⟩) 2 t959 _ ⟨Rd.lit (l := []) (xs := [2, t953]) HS.out 4 rfl (by simp)⟩ ⟨Sep.start _⟩ HA960).mono ?_
            rintro e_ w1022 ⟨rfl, hS⟩
            replace HS : Aside0 (Sep (fps []) w [b2 g575 a571 a572 a573 a574, b8 g578 0 0 0 0 0 0 0 0, b8 g735 t732 (wrap64 (a572 - 8)) (wrap64 ((wrap64 (a572 - 8)) + 1)) t901 t928 t912 0 0, b9 g1015 2 (wrap64 ((wrap64 (a572 - 8)) + 1)), b9 g1018 2 t953] w1022) := ⟨HS.out.call hS⟩
            clear hS
            refine ⟨_, rfl, ?_⟩
            refine hK.out _ _ (⟨blk_cellv (HS.out.at2) 4 rfl, blk_cellv (HS.out.at0) 3 rfl, blk_cellv (HS.out.at2) 2 rfl⟩) (fun hHeld => ?_)
            clear hK K
            refine norm_ (a' := ?_) ?_ ?_
            rotate_left
            · show Act.put _ (some 59) _ = _
              simp only [Act.put, List.setIfInBounds_toArray, List.set_cons_zero, List.set_cons_succ, i64_w, i32_w]
              rfl
            refine one_ (i := 10) (N := some 63) #[true, true, true, true, true, true, true, true, true, true, true, false, false, false, false] rfl rfl (by kernel_rfl) (by decide) (fun K hK => ?_)
            refine goes_ Try.func107 (by kernel_rfl) rfl #[.slice (some ⟨g1015, 0, none⟩) 2 2] (by rfl) rfl rfl (by (try simp only [List.map_toArray, List.map_cons, List.map_nil]); first | done | rfl) ?_
            refine (ratio_Mul.calls _ [2, wrap64 ((wrap64 (a572 - 8)) + 1)] (some ⟨g1015, 0, none⟩) 2 t965 _ ⟨Rd.lit (l := []) (xs := [2, wrap64 ((wrap64 (a572 - 8)) + 1)]) HS.out 3 rfl (by simp)⟩ ⟨Sep.start _⟩ HA966).mono ?_
            rintro e_ w1024 ⟨rfl, hS⟩
            replace HS : Aside0 (Sep (fps []) w [b2 g575 a571 a572 a573 a574, b8 g578 0 0 0 0 0 0 0 0, b8 g735 t732 (wrap64 (a572 - 8)) (wrap64 ((wrap64 (a572 - 8)) + 1)) t901 t928 t912 0 0, b9 g1015 2 (wrap64 ((wrap64 (a572 - 8)) + 1)), b9 g1018 2 t953] w1024) := ⟨HS.out.call hS⟩
            clear hS
            refine ⟨_, rfl, ?_⟩
            refine hK.out _ _ (⟨blk_cellv (HS.out.at2) 4 rfl, blk_cellv (HS.out.at0) 3 rfl, blk_cellv (HS.out.at2) 2 rfl⟩) (fun hHeld => ?_)
            clear hK K
            refine norm_ (a' := ?_) ?_ ?_
            rotate_left
            · show Act.put _ (some 63) _ = _
              simp only [Act.put, List.setIfInBounds_toArray, List.set_cons_zero, List.set_cons_succ, i64_w, i32_w]
              rfl
            refine one_ (i := 11) (N := some 64) #[true, true, true, true, true, true, true, true, true, true, true, true, false, false, false] rfl rfl (by kernel_rfl) (by decide) (fun K hK => ?_)
            refine slice_step (n := 2) (by rfl) (N := 64) rfl (cs := #[.int .i64 t959, .int .i64 t965]) (t := 3) ?hr ?_
            case hr => first | (go_simp; done) | (go_simp; rfl)
            intro g1025 hg w1026 hbox hb
            replace HS : Aside0 (Sep (fps []) w [b2 g575 a571 a572 a573 a574, b8 g578 0 0 0 0 0 0 0 0, b8 g735 t732 (wrap64 (a572 - 8)) (wrap64 ((wrap64 (a572 - 8)) + 1)) t901 t928 t912 0 0, b9 g1015 2 (wrap64 ((wrap64 (a572 - 8)) + 1)), b9 g1018 2 t953, b9 g1025 t959 t965] w1026) := ⟨HS.out.box hg hbox hb⟩
            clear hg hbox hb
            refine hK.out _ _ (⟨blk_cellv (HS.out.at2) 4 rfl, blk_cellv (HS.out.at0) 3 rfl, blk_cellv (HS.out.at2) 2 rfl⟩) (fun hHeld => ?_)
            clear hK K
            refine norm_ (a' := ?_) ?_ ?_
            rotate_left
            · show Act.put _ (some 64) _ = _
              simp only [Act.put, List.setIfInBounds_toArray, List.set_cons_zero, List.set_cons_succ, i64_w, i32_w]
              rfl
            refine one_ (i := 12) (N := some 65) #[true, true, true, true, true, true, true, true, true, true, true, true, true, false, false] rfl rfl (by kernel_rfl) (by decide) (fun K hK => ?_)
            refine goes_ Try.func106 (by kernel_rfl) rfl #[.slice (some ⟨g1025, 0, none⟩) 2 2] (by rfl) rfl rfl (by (try simp only [List.map_toArray, List.map_cons, List.map_nil]); first | done | rfl) ?_
            refine (ratio_Add.calls _ [t959, t965] (some ⟨g1025, 0, none⟩) 2 t971 _ ⟨Rd.lit (l := []) (xs := [t959, t965]) HS.out 5 rfl (by simp)⟩ ⟨Sep.start _⟩ HA972).mono ?_
            rintro e_ w1029 ⟨rfl, hS⟩
            replace HS : Aside0 (Sep (fps []) w [b2 g575 a571 a572 a573 a574, b8 g578 0 0 0 0 0 0 0 0, b8 g735 t732 (wrap64 (a572 - 8)) (wrap64 ((wrap64 (a572 - 8)) + 1)) t901 t928 t912 0 0, b9 g1015 2 (wrap64 ((wrap64 (a572 - 8)) + 1)), b9 g1018 2 t953, b9 g1025 t959 t965] w1029) := ⟨HS.out.call hS⟩
            clear hS
            refine ⟨_, rfl, ?_⟩
            refine hK.out _ _ (⟨blk_cellv (HS.out.at2) 4 rfl, blk_cellv (HS.out.at0) 3 rfl, blk_cellv (HS.out.at2) 2 rfl⟩) (fun hHeld => ?_)
            clear hK K
            refine norm_ (a' := ?_) ?_ ?_
            rotate_left
            · show Act.put _ (some 65) _ = _
              simp only [Act.put, List.setIfInBounds_toArray, List.set_cons_zero, List.set_cons_succ, i64_w, i32_w]
              rfl
            refine pure_ (i := 13) (N := some 66) (v := ?_) (a' := ?_) #[true, true, true, true, true, true, true, true, true, true, true, true, true, true, false] rfl rfl (by kernel_rfl) (fun _ _ _ h => h) (Or.inl ⟨by rfl, ?_⟩) ?_ ?_
            rotate_left
            · intro w'
              go_simp
              with_reducible rfl
            rotate_left
            · simp only [Act.put, List.setIfInBounds_toArray, List.set_cons_zero, List.set_cons_succ, i64_w, i32_w]
              rfl
            refine one_ (i := 14) (N := none) #[true, true, true, true, true, true, true, true, true, true, true, true, true, true, true] rfl rfl (by kernel_rfl) (by decide) (fun K hK => ?_)
            have hc1031 := blk_cellv (v := .int .i64 0) (HS.out.at2) 6 rfl
            have hz1032 := blk_fz (HS.out.at2) 6
            refine store_step (w1 := (World.setCell w1029 ⟨g735, 6, none⟩ (.int .i64 t971))) (by rfl) rfl ?hr ?_
            case hr => first | (go_simp; done) | (go_simp; rfl)
            clear hc1031 hz1032
            intro w1030 hst
            have hq0 : Sep (fps []) w [b2 g575 a571 a572 a573 a574, b8 g578 0 0 0 0 0 0 0 0, b8 g735 t732 (wrap64 (a572 - 8)) (wrap64 ((wrap64 (a572 - 8)) + 1)) t901 t928 t912 t971 0, b9 g1015 2 (wrap64 ((wrap64 (a572 - 8)) + 1)), b9 g1018 2 t953, b9 g1025 t959 t965] (World.setCell w1029 ⟨g735, 6, none⟩ (.int .i64 t971)) := (HS.out).set1 (l1 := [b2 g575 a571 a572 a573 a574, b8 g578 0 0 0 0 0 0 0 0]) (l2 := [b9 g1015 2 (wrap64 ((wrap64 (a572 - 8)) + 1)), b9 g1018 2 t953, b9 g1025 t959 t965]) 6 (.int .i64 t971)
            have HS_ : Aside0 (Sep (fps []) w [b2 g575 a571 a572 a573 a574, b8 g578 0 0 0 0 0 0 0 0, b8 g735 t732 (wrap64 (a572 - 8)) (wrap64 ((wrap64 (a572 - 8)) + 1)) t901 t928 t912 t971 0, b9 g1015 2 (wrap64 ((wrap64 (a572 - 8)) + 1)), b9 g1018 2 t953, b9 g1025 t959 t965] w1030) := ⟨by rw [hst]; exact hq0⟩
            clear hq0
            clear HS hst
            have HS := HS_
            clear HS_
            refine hK.out _ _ (⟨blk_cellv (HS.out.at2) 4 rfl, blk_cellv (HS.out.at0) 3 rfl, blk_cellv (HS.out.at2) 2 rfl⟩) (fun hHeld => ?_)
            clear hK K
            refine done_ (by kernel_rfl) ?_
            go_wp2_with fail
            go_meet
            case rel => exact ⟨g1018, g1015, g1025, ⟨((((((HS.out).front 5 (by simp)).front 4 (by simp)).front 5 (by simp)).front 5 (by simp)).front 5 (by simp)).front 5 (by simp)⟩⟩
        · refine slice_step (n := 2) (by rfl) (N := 62) rfl (cs := #[.int .i64 2, .int .i64 (wrap64 ((wrap64 (a572 - 8)) + 1))]) (t := 3) ?hr ?_
          case hr => first | (go_simp; done) | (go_simp; rfl)
          intro g1033 hg w1034 hbox hb
          replace HS : Aside0 (Sep (fps []) w [b2 g575 a571 a572 a573 a574, b8 g578 0 0 0 0 0 0 0 0, b8 g735 t732 (wrap64 (a572 - 8)) (wrap64 ((wrap64 (a572 - 8)) + 1)) t901 t928 t912 0 0, b9 g1033 2 (wrap64 ((wrap64 (a572 - 8)) + 1))] w1034) := ⟨HS.out.box hg hbox hb⟩
          clear hg hbox hb
          refine hK.out _ _ (⟨blk_cellv (HS.out.at2) 4 rfl, blk_cellv (HS.out.at0) 3 rfl, blk_cellv (HS.out.at2) 2 rfl⟩) (fun hHeld => ?_)
          clear hK K
          refine norm_ (a' := ?_) ?_ ?_
          rotate_left
          · show Act.put _ (some 62) _ = _
            simp only [Act.put, List.setIfInBounds_toArray, List.set_cons_zero, List.set_cons_succ, i64_w, i32_w]
            rfl
          refine one_ (i := 4) (N := some 57) #[true, true, true, true, true, false, false, true, true, true, false, false, false, false, false] rfl rfl (by kernel_rfl) (by decide) (fun K hK => ?_)
          refine goes_ Try.func108 (by kernel_rfl) rfl #[.int .i64 t928, .int .i64 a574] (by rfl) rfl rfl (by (try simp only [List.map_toArray, List.map_cons, List.map_nil]); first | done | rfl) ?_
          refine (ratio_Up.calls t928 a574 t953 _ ⟨Sep.start _⟩ HA954).mono ?_
          rintro e_ w1037 ⟨rfl, hS⟩
          replace HS : Aside0 (Sep (fps []) w [b2 g575 a571 a572 a573 a574, b8 g578 0 0 0 0 0 0 0 0, b8 g735 t732 (wrap64 (a572 - 8)) (wrap64 ((wrap64 (a572 - 8)) + 1)) t901 t928 t912 0 0, b9 g1033 2 (wrap64 ((wrap64 (a572 - 8)) + 1))] w1037) := ⟨HS.out.call hS⟩
          clear hS
          refine ⟨_, rfl, ?_⟩
          refine hK.out _ _ (⟨blk_cellv (HS.out.at2) 4 rfl, blk_cellv (HS.out.at0) 3 rfl, blk_cellv (HS.out.at2) 2 rfl⟩) (fun hHeld => ?_)
          clear hK K
          refine norm_ (a' := ?_) ?_ ?_
          rotate_left
          · show Act.put _ (some 57) _ = _
            simp only [Act.put, List.setIfInBounds_toArray, List.set_cons_zero, List.set_cons_succ, i64_w, i32_w]
            rfl
          refine one_ (i := 5) (N := some 58) #[true, true, true, true, true, true, false, true, true, true, false, false, false, false, false] rfl rfl (by kernel_rfl) (by decide) (fun K hK => ?_)
          refine slice_step (n := 2) (by rfl) (N := 58) rfl (cs := #[.int .i64 2, .int .i64 t953]) (t := 3) ?hr ?_
          case hr => first | (go_simp; done) | (go_simp; rfl)
          intro g1038 hg w1039 hbox hb
          replace HS : Aside0 (Sep (fps []) w [b2 g575 a571 a572 a573 a574, b8 g578 0 0 0 0 0 0 0 0, b8 g735 t732 (wrap64 (a572 - 8)) (wrap64 ((wrap64 (a572 - 8)) + 1)) t901 t928 t912 0 0, b9 g1033 2 (wrap64 ((wrap64 (a572 - 8)) + 1)), b9 g1038 2 t953] w1039) := ⟨HS.out.box hg hbox hb⟩
          clear hg hbox hb
          refine hK.out _ _ (⟨blk_cellv (HS.out.at2) 4 rfl, blk_cellv (HS.out.at0) 3 rfl, blk_cellv (HS.out.at2) 2 rfl⟩) (fun hHeld => ?_)
          clear hK K
          refine norm_ (a' := ?_) ?_ ?_
          rotate_left
          · show Act.put _ (some 58) _ = _
            simp only [Act.put, List.setIfInBounds_toArray, List.set_cons_zero, List.set_cons_succ, i64_w, i32_w]
            rfl
          refine one_ (i := 6) (N := some 59) #[true, true, true, true, true, true, true, true, true, true, false, false, false, false, false] rfl rfl (by kernel_rfl) (by decide) (fun K hK => ?_)
          refine goes_ Try.func107 (by kernel_rfl) rfl #[.slice (some ⟨g1038, 0, none⟩) 2 2] (by rfl) rfl rfl (by (try simp only [List.map_toArray, List.map_cons, List.map_nil]); first | done | rfl) ?_
          refine (ratio_Mul.calls _ [2, t953] (some ⟨g1038, 0, none⟩) 2 t959 _ ⟨Rd.lit (l := []) (xs := [2, t953]) HS.out 4 rfl (by simp)⟩ ⟨Sep.start _⟩ HA960).mono ?_
          rintro e_ w1042 ⟨rfl, hS⟩
          replace HS : Aside0 (Sep (fps []) w [b2 g575 a571 a572 a573 a574, b8 g578 0 0 0 0 0 0 0 0, b8 g735 t732 (wrap64 (a572 - 8)) (wrap64 ((wrap64 (a572 - 8)) + 1)) t901 t928 t912 0 0, b9 g1033 2 (wrap64 ((wrap64 (a572 - 8)) + 1)), b9 g1038 2 t953] w1042) := ⟨HS.out.call hS⟩
          clear hS
          refine ⟨_, rfl, ?_⟩
          refine hK.out _ _ (⟨blk_cellv (HS.out.at2) 4 rfl, blk_cellv (HS.out.at0) 3 rfl, blk_cellv (HS.out.at2) 2 rfl⟩) (fun hHeld => ?_)
          clear hK K
          refine norm_ (a' := ?_) ?_ ?_
          rotate_left
          · show Act.put _ (some 59) _ = _
            simp only [Act.put, List.setIfInBounds_toArray, List.set_cons_zero, List.set_cons_succ, i64_w, i32_w]
            rfl
          refine one_ (i := 10) (N := some 63) #[true, true, true, true, true, true, true, true, true, true, true, false, false, false, false] rfl rfl (by kernel_rfl) (by decide) (fun K hK => ?_)
          refine goes_ Try.func107 (by kernel_rfl) rfl #[.slice (some ⟨g1033, 0, none⟩) 2 2] (by rfl) rfl rfl (by (try simp only [List.map_toArray, List.map_cons, List.map_nil]); first | done | rfl) ?_
          refine (ratio_Mul.calls _ [2, wrap64 ((wrap64 (a572 - 8)) + 1)] (some ⟨g1033, 0, none⟩) 2 t965 _ ⟨Rd.lit (l := []) (xs := [2, wrap64 ((wrap64 (a572 - 8)) + 1)]) HS.out 3 rfl (by simp)⟩ ⟨Sep.start _⟩ HA966).mono ?_
          rintro e_ w1044 ⟨rfl, hS⟩
          replace HS : Aside0 (Sep (fps []) w [b2 g575 a571 a572 a573 a574, b8 g578 0 0 0 0 0 0 0 0, b8 g735 t732 (wrap64 (a572 - 8)) (wrap64 ((wrap64 (a572 - 8)) + 1)) t901 t928 t912 0 0, b9 g1033 2 (wrap64 ((wrap64 (a572 - 8)) + 1)), b9 g1038 2 t953] w1044) := ⟨HS.out.call hS⟩
          clear hS
          refine ⟨_, rfl, ?_⟩
          refine hK.out _ _ (⟨blk_cellv (HS.out.at2) 4 rfl, blk_cellv (HS.out.at0) 3 rfl, blk_cellv (HS.out.at2) 2 rfl⟩) (fun hHeld => ?_)
          clear hK K
          refine norm_ (a' := ?_) ?_ ?_
          rotate_left
          · show Act.put _ (some 63) _ = _
            simp only [Act.put, List.setIfInBounds_toArray, List.set_cons_zero, List.set_cons_succ, i64_w, i32_w]
            rfl
          refine one_ (i := 11) (N := some 64) #[true, true, true, true, true, true, true, true, true, true, true, true, false, false, false] rfl rfl (by kernel_rfl) (by decide) (fun K hK => ?_)
          refine slice_step (n := 2) (by rfl) (N := 64) rfl (cs := #[.int .i64 t959, .int .i64 t965]) (t := 3) ?hr ?_
          case hr => first | (go_simp; done) | (go_simp; rfl)
          intro g1045 hg w1046 hbox hb
          replace HS : Aside0 (Sep (fps []) w [b2 g575 a571 a572 a573 a574, b8 g578 0 0 0 0 0 0 0 0, b8 g735 t732 (wrap64 (a572 - 8)) (wrap64 ((wrap64 (a572 - 8)) + 1)) t901 t928 t912 0 0, b9 g1033 2 (wrap64 ((wrap64 (a572 - 8)) + 1)), b9 g1038 2 t953, b9 g1045 t959 t965] w1046) := ⟨HS.out.box hg hbox hb⟩
          clear hg hbox hb
          refine hK.out _ _ (⟨blk_cellv (HS.out.at2) 4 rfl, blk_cellv (HS.out.at0) 3 rfl, blk_cellv (HS.out.at2) 2 rfl⟩) (fun hHeld => ?_)
          clear hK K
          refine norm_ (a' := ?_) ?_ ?_
          rotate_left
          · show Act.put _ (some 64) _ = _
            simp only [Act.put, List.setIfInBounds_toArray, List.set_cons_zero, List.set_cons_succ, i64_w, i32_w]
            rfl
          refine one_ (i := 12) (N := some 65) #[true, true, true, true, true, true, true, true, true, true, true, true, true, false, false] rfl rfl (by kernel_rfl) (by decide) (fun K hK => ?_)
          refine goes_ Try.func106 (by kernel_rfl) rfl #[.slice (some ⟨g1045, 0, none⟩) 2 2] (by rfl) rfl rfl (by (try simp only [List.map_toArray, List.map_cons, List.map_nil]); first | done | rfl) ?_
          refine (ratio_Add.calls _ [t959, t965] (some ⟨g1045, 0, none⟩) 2 t971 _ ⟨Rd.lit (l := []) (xs := [t959, t965]) HS.out 5 rfl (by simp)⟩ ⟨Sep.start _⟩ HA972).mono ?_
          rintro e_ w1049 ⟨rfl, hS⟩
          replace HS : Aside0 (Sep (fps []) w [b2 g575 a571 a572 a573 a574, b8 g578 0 0 0 0 0 0 0 0, b8 g735 t732 (wrap64 (a572 - 8)) (wrap64 ((wrap64 (a572 - 8)) + 1)) t901 t928 t912 0 0, b9 g1033 2 (wrap64 ((wrap64 (a572 - 8)) + 1)), b9 g1038 2 t953, b9 g1045 t959 t965] w1049) := ⟨HS.out.call hS⟩
          clear hS
          refine ⟨_, rfl, ?_⟩
          refine hK.out _ _ (⟨blk_cellv (HS.out.at2) 4 rfl, blk_cellv (HS.out.at0) 3 rfl, blk_cellv (HS.out.at2) 2 rfl⟩) (fun hHeld => ?_)
          clear hK K
          refine norm_ (a' := ?_) ?_ ?_
          rotate_left
          · show Act.put _ (some 65) _ = _
            simp only [Act.put, List.setIfInBounds_toArray, List.set_cons_zero, List.set_cons_succ, i64_w, i32_w]
            rfl
          refine pure_ (i := 13) (N := some 66) (v := ?_) (a' := ?_) #[true, true, true, true, true, true, true, true, true, true, true, true, true, true, false] rfl rfl (by kernel_rfl) (fun _ _ _ h => h) (Or.inl ⟨by rfl, ?_⟩) ?_ ?_
          rotate_left
          · intro w'
            go_simp
            with_reducible rfl
          rotate_left
          · simp only [Act.put, List.setIfInBounds_toArray, List.set_cons_zero, List.set_cons_succ, i64_w, i32_w]
            rfl
          refine one_ (i := 14) (N := none) #[true, true, true, true, true, true, true, true, true, true, true, true, true, true, true] rfl rfl (by kernel_rfl) (by decide) (fun K hK => ?_)
          have hc1051 := blk_cellv (v := .int .i64 0) (HS.out.at2) 6 rfl
          have hz1052 := blk_fz (HS.out.at2) 6
          refine store_step (w1 := (World.setCell w1049 ⟨g735, 6, none⟩ (.int .i64 t971))) (by rfl) rfl ?hr ?_
          case hr => first | (go_simp; done) | (go_simp; rfl)
          clear hc1051 hz1052
          intro w1050 hst
          have hq0 : Sep (fps []) w [b2 g575 a571 a572 a573 a574, b8 g578 0 0 0 0 0 0 0 0, b8 g735 t732 (wrap64 (a572 - 8)) (wrap64 ((wrap64 (a572 - 8)) + 1)) t901 t928 t912 t971 0, b9 g1033 2 (wrap64 ((wrap64 (a572 - 8)) + 1)), b9 g1038 2 t953, b9 g1045 t959 t965] (World.setCell w1049 ⟨g735, 6, none⟩ (.int .i64 t971)) := (HS.out).set1 (l1 := [b2 g575 a571 a572 a573 a574, b8 g578 0 0 0 0 0 0 0 0]) (l2 := [b9 g1033 2 (wrap64 ((wrap64 (a572 - 8)) + 1)), b9 g1038 2 t953, b9 g1045 t959 t965]) 6 (.int .i64 t971)
          have HS_ : Aside0 (Sep (fps []) w [b2 g575 a571 a572 a573 a574, b8 g578 0 0 0 0 0 0 0 0, b8 g735 t732 (wrap64 (a572 - 8)) (wrap64 ((wrap64 (a572 - 8)) + 1)) t901 t928 t912 t971 0, b9 g1033 2 (wrap64 ((wrap64 (a572 - 8)) + 1)), b9 g1038 2 t953, b9 g1045 t959 t965] w1050) := ⟨by rw [hst]; exact hq0⟩
          clear hq0
          clear HS hst
          have HS := HS_
          clear HS_
          refine hK.out _ _ (⟨blk_cellv (HS.out.at2) 4 rfl, blk_cellv (HS.out.at0) 3 rfl, blk_cellv (HS.out.at2) 2 rfl⟩) (fun hHeld => ?_)
          clear hK K
          refine done_ (by kernel_rfl) ?_
          go_wp2_with fail
          go_meet
          case rel => exact ⟨g1038, g1033, g1045, ⟨((((((HS.out).front 5 (by simp)).front 4 (by simp)).front 5 (by simp)).front 5 (by simp)).front 5 (by simp)).front 5 (by simp)⟩⟩
      case rest =>
        clear HS
        obtain ⟨g956, g962, g968, HS⟩ := hcut
        obtain ⟨w977, rfl⟩ : ∃ x : World, x = wc := ⟨_, rfl⟩
        replace HS : Aside0 (Sep (fps []) w [b2 g575 a571 a572 a573 a574, b8 g578 0 0 0 0 0 0 0 0, b8 g735 t732 (wrap64 (a572 - 8)) (wrap64 ((wrap64 (a572 - 8)) + 1)) t901 t928 t912 t971 0] w977) := ⟨HS.out.sub (.cons_cons _ (.cons_cons _ (.cons_cons _ (.cons _ (.cons _ (.cons _ .slnil))))))⟩
        go_wp2_with fail
        refine start_ (n := 15) (S := (fun w' => w'.cell? ⟨g735, 4, none⟩ = some (.int .i64 t928) ∧ w'.cell? ⟨g735, 5, none⟩ = some (.int .i64 t912) ∧ w'.cell? ⟨g575, 3, none⟩ = some (.int .i64 a574))) (ds := []) #[false, false, false, false, false, false, false, false, false, false, false, false, false, false, false] (by kernel_rfl) rfl rfl (⟨blk_cellv ((HS.out.drew).at2) 4 rfl, blk_cellv ((HS.out.drew).at2) 5 rfl, blk_cellv ((HS.out.drew).at0) 3 rfl⟩) (fun hHeld => ?_)
        have HS_ := Aside0.mk HS.out.drew
        clear HS
        generalize World.drew _ = w1054 at HS_ hHeld ⊢
        have HS := HS_
        clear HS_
        refine pure_ (i := 0) (N := some 67) (v := ?_) (a' := ?_) #[true, false, false, false, false, false, false, false, false, false, false, false, false, false, false] rfl rfl (by kernel_rfl) (fun _ _ _ h => h) (Or.inl ⟨by rfl, ?_⟩) ?_ ?_
        rotate_left
        · intro w'
          go_simp
          with_reducible rfl
        rotate_left
        · simp only [Act.put, List.setIfInBounds_toArray, List.set_cons_zero, List.set_cons_succ, i64_w, i32_w]
          rfl
        refine pure_ (i := 2) (N := some 69) (v := ?_) (a' := ?_) #[true, false, true, false, false, false, false, false, false, false, false, false, false, false, false] rfl rfl (by kernel_rfl) (fun _ _ _ h => h) (Or.inl ⟨by rfl, ?_⟩) ?_ ?_
        rotate_left
        · intro w'
          go_simp
          with_reducible rfl
        rotate_left
        · simp only [Act.put, List.setIfInBounds_toArray, List.set_cons_zero, List.set_cons_succ, i64_w, i32_w]
          rfl
        refine pure_ (i := 4) (N := some 71) (v := ?_) (a' := ?_) #[true, false, true, false, true, false, false, false, false, false, false, false, false, false, false] rfl rfl (by kernel_rfl) (fun _ _ _ h => h) (Or.inl ⟨by rfl, ?_⟩) ?_ ?_
        rotate_left
        · intro w'
          go_simp
          with_reducible rfl
        rotate_left
        · simp only [Act.put, List.setIfInBounds_toArray, List.set_cons_zero, List.set_cons_succ, i64_w, i32_w]
          rfl
        refine pure_ (i := 8) (N := some 75) (v := ?_) (a' := ?_) #[true, false, true, false, true, false, false, false, true, false, false, false, false, false, false] rfl rfl (by kernel_rfl) (fun _ _ _ h => h) (Or.inl ⟨by rfl, ?_⟩) ?_ ?_
        rotate_left
        · intro w'
          go_simp
          with_reducible rfl
        rotate_left
        · simp only [Act.put, List.setIfInBounds_toArray, List.set_cons_zero, List.set_cons_succ, i64_w, i32_w]
          rfl
        refine take_ (i := 1) (N := some 68) (v := ?_) (a' := ?_) #[true, true, true, false, true, false, false, false, true, false, false, false, false, false, false] rfl rfl (by kernel_rfl) (fun _ _ _ h => h) (Or.inl ⟨by rfl, ?_⟩) hHeld ?_ ?_
        rotate_left
        · rintro w' hS'
          obtain ⟨s0, s1, s2⟩ := hS'
          go_simp
          with_reducible rfl
        rotate_left
        · simp only [Act.put, List.setIfInBounds_toArray, List.set_cons_zero, List.set_cons_succ, i64_w, i32_w]
          rfl
        refine take_ (i := 3) (N := some 70) (v := ?_) (a' := ?_) #[true, true, true, true, true, false, false, false, true, false, false, false, false, false, false] rfl rfl (by kernel_rfl) (fun _ _ _ h => h) (Or.inl ⟨by rfl, ?_⟩) hHeld ?_ ?_
        rotate_left
        · rintro w' hS'
          obtain ⟨s0, s1, s2⟩ := hS'
          go_simp
          with_reducible rfl
        rotate_left
        · simp only [Act.put, List.setIfInBounds_toArray, List.set_cons_zero, List.set_cons_succ, i64_w, i32_w]
          rfl
        refine take_ (i := 5) (N := some 72) (v := ?_) (a' := ?_) #[true, true, true, true, true, true, false, false, true, false, false, false, false, false, false] rfl rfl (by kernel_rfl) (fun _ _ _ h => h) (Or.inl ⟨by rfl, ?_⟩) hHeld ?_ ?_
        rotate_left
        · rintro w' hS'
          obtain ⟨s0, s1, s2⟩ := hS'
          go_simp
          with_reducible rfl
        rotate_left
        · simp only [Act.put, List.setIfInBounds_toArray, List.set_cons_zero, List.set_cons_succ, i64_w, i32_w]
          rfl
        refine take_ (i := 9) (N := some 76) (v := ?_) (a' := ?_) #[true, true, true, true, true, true, false, false, true, true, false, false, false, false, false] rfl rfl (by kernel_rfl) (fun _ _ _ h => h) (Or.inl ⟨by rfl, ?_⟩) hHeld ?_ ?_
        rotate_left
        · rintro w' hS'
          obtain ⟨s0, s1, s2⟩ := hS'
          go_simp
          with_reducible rfl
        rotate_left
        · simp only [Act.put, List.setIfInBounds_toArray, List.set_cons_zero, List.set_cons_succ, i64_w, i32_w]
          rfl
        refine one_ (i := 6) (N := some 73) #[true, true, true, true, true, true, true, false, true, true, false, false, false, false, false] rfl rfl (by kernel_rfl) (by decide) (fun K hK => ?_)
        refine slice_step (n := 3) (by rfl) (N := 73) rfl (cs := #[.int .i64 t928, .int .i64 t928, .int .i64 t912]) (t := 3) ?hr ?_
        case hr => first | (go_simp; done) | (go_simp; rfl)
        intro g1055 hg w1056 hbox hb
        replace HS : Aside0 (Sep (fps []) w [b2 g575 a571 a572 a573 a574, b8 g578 0 0 0 0 0 0 0 0, b8 g735 t732 (wrap64 (a572 - 8)) (wrap64 ((wrap64 (a572 - 8)) + 1)) t901 t928 t912 t971 0, b10 g1055 t928 t928 t912] w1056) := ⟨HS.out.box hg hbox hb⟩
        clear hg hbox hb
        refine hK.out _ _ (⟨blk_cellv (HS.out.at2) 4 rfl, blk_cellv (HS.out.at2) 5 rfl, blk_cellv (HS.out.at0) 3 rfl⟩) (fun hHeld => ?_)
        clear hK K
        refine norm_ (a' := ?_) ?_ ?_
        rotate_left
        · show Act.put _ (some 73) _ = _
          simp only [Act.put, List.setIfInBounds_toArray, List.set_cons_zero, List.set_cons_succ, i64_w, i32_w]
          rfl
        refine one_ (i := 7) (N := some 74) #[true, true, true, true, true, true, true, true, true, true, false, false, false, false, false] rfl rfl (by kernel_rfl) (by decide) (fun K hK => ?_)
        obtain ⟨t1058, HA1059, H⟩ := bind_some H
        refine goes_ Try.func106 (by kernel_rfl) rfl #[.slice (some ⟨g1055, 0, none⟩) 3 3] (by rfl) rfl rfl (by (try simp only [List.map_toArray, List.map_cons, List.map_nil]); first | done | rfl) ?_
        refine (ratio_Add.calls _ [t928, t928, t912] (some ⟨g1055, 0, none⟩) 3 t1058 _ ⟨Rd.lit (l := []) (xs := [t928, t928, t912]) HS.out 3 rfl (by simp)⟩ ⟨Sep.start _⟩ HA1059).mono ?_
        rintro e_ w1060 ⟨rfl, hS⟩
        replace HS : Aside0 (Sep (fps []) w [b2 g575 a571 a572 a573 a574, b8 g578 0 0 0 0 0 0 0 0, b8 g735 t732 (wrap64 (a572 - 8)) (wrap64 ((wrap64 (a572 - 8)) + 1)) t901 t928 t912 t971 0, b10 g1055 t928 t928 t912] w1060) := ⟨HS.out.call hS⟩
        clear hS
        refine ⟨_, rfl, ?_⟩
        refine hK.out _ _ (⟨blk_cellv (HS.out.at2) 4 rfl, blk_cellv (HS.out.at2) 5 rfl, blk_cellv (HS.out.at0) 3 rfl⟩) (fun hHeld => ?_)
        clear hK K
        refine norm_ (a' := ?_) ?_ ?_
        rotate_left
        · show Act.put _ (some 74) _ = _
          simp only [Act.put, List.setIfInBounds_toArray, List.set_cons_zero, List.set_cons_succ, i64_w, i32_w]
          rfl
        refine one_ (i := 10) (N := some 77) #[true, true, true, true, true, true, true, true, true, true, true, false, false, false, false] rfl rfl (by kernel_rfl) (by decide) (fun K hK => ?_)
        obtain ⟨t1061, HA1062, H⟩ := bind_some H
        refine goes_ Try.func108 (by kernel_rfl) rfl #[.int .i64 t1058, .int .i64 a574] (by rfl) rfl rfl (by (try simp only [List.map_toArray, List.map_cons, List.map_nil]); first | done | rfl) ?_
        refine (ratio_Up.calls t1058 a574 t1061 _ ⟨Sep.start _⟩ HA1062).mono ?_
        rintro e_ w1063 ⟨rfl, hS⟩
        replace HS : Aside0 (Sep (fps []) w [b2 g575 a571 a572 a573 a574, b8 g578 0 0 0 0 0 0 0 0, b8 g735 t732 (wrap64 (a572 - 8)) (wrap64 ((wrap64 (a572 - 8)) + 1)) t901 t928 t912 t971 0, b10 g1055 t928 t928 t912] w1063) := ⟨HS.out.call hS⟩
        clear hS
        refine ⟨_, rfl, ?_⟩
        refine hK.out _ _ (⟨blk_cellv (HS.out.at2) 4 rfl, blk_cellv (HS.out.at2) 5 rfl, blk_cellv (HS.out.at0) 3 rfl⟩) (fun hHeld => ?_)
        clear hK K
        refine norm_ (a' := ?_) ?_ ?_
        rotate_left
        · show Act.put _ (some 77) _ = _
          simp only [Act.put, List.setIfInBounds_toArray, List.set_cons_zero, List.set_cons_succ, i64_w, i32_w]
          rfl
        refine one_ (i := 11) (N := some 78) #[true, true, true, true, true, true, true, true, true, true, true, true, false, false, false] rfl rfl (by kernel_rfl) (by decide) (fun K hK => ?_)
        refine slice_step (n := 2) (by rfl) (N := 78) rfl (cs := #[.int .i64 t1061, .int .i64 2]) (t := 3) ?hr ?_
        case hr => first | (go_simp; done) | (go_simp; rfl)
        intro g1064 hg w1065 hbox hb
        replace HS : Aside0 (Sep (fps []) w [b2 g575 a571 a572 a573 a574, b8 g578 0 0 0 0 0 0 0 0, b8 g735 t732 (wrap64 (a572 - 8)) (wrap64 ((wrap64 (a572 - 8)) + 1)) t901 t928 t912 t971 0, b10 g1055 t928 t928 t912, b9 g1064 t1061 2] w1065) := ⟨HS.out.box hg hbox hb⟩
        clear hg hbox hb
        refine hK.out _ _ (⟨blk_cellv (HS.out.at2) 4 rfl, blk_cellv (HS.out.at2) 5 rfl, blk_cellv (HS.out.at0) 3 rfl⟩) (fun hHeld => ?_)
        clear hK K
        refine norm_ (a' := ?_) ?_ ?_
        rotate_left
        · show Act.put _ (some 78) _ = _
          simp only [Act.put, List.setIfInBounds_toArray, List.set_cons_zero, List.set_cons_succ, i64_w, i32_w]
          rfl
        refine one_ (i := 12) (N := some 79) #[true, true, true, true, true, true, true, true, true, true, true, true, true, false, false] rfl rfl (by kernel_rfl) (by decide) (fun K hK => ?_)
        obtain ⟨t1067, HA1068, H⟩ := bind_some H
        refine goes_ Try.func106 (by kernel_rfl) rfl #[.slice (some ⟨g1064, 0, none⟩) 2 2] (by rfl) rfl rfl (by (try simp only [List.map_toArray, List.map_cons, List.map_nil]); first | done | rfl) ?_
        refine (ratio_Add.calls _ [t1061, 2] (some ⟨g1064, 0, none⟩) 2 t1067 _ ⟨Rd.lit (l := []) (xs := [t1061, 2]) HS.out 4 rfl (by simp)⟩ ⟨Sep.start _⟩ HA1068).mono ?_
        rintro e_ w1069 ⟨rfl, hS⟩
        replace HS : Aside0 (Sep (fps []) w [b2 g575 a571 a572 a573 a574, b8 g578 0 0 0 0 0 0 0 0, b8 g735 t732 (wrap64 (a572 - 8)) (wrap64 ((wrap64 (a572 - 8)) + 1)) t901 t928 t912 t971 0, b10 g1055 t928 t928 t912, b9 g1064 t1061 2] w1069) := ⟨HS.out.call hS⟩
        clear hS
        refine ⟨_, rfl, ?_⟩
        refine hK.out _ _ (⟨blk_cellv (HS.out.at2) 4 rfl, blk_cellv (HS.out.at2) 5 rfl, blk_cellv (HS.out.at0) 3 rfl⟩) (fun hHeld => ?_)
        clear hK K
        refine norm_ (a' := ?_) ?_ ?_
        rotate_left
        · show Act.put _ (some 79) _ = _
          simp only [Act.put, List.setIfInBounds_toArray, List.set_cons_zero, List.set_cons_succ, i64_w, i32_w]
          rfl
        refine pure_ (i := 13) (N := some 80) (v := ?_) (a' := ?_) #[true, true, true, true, true, true, true, true, true, true, true, true, true, true, false] rfl rfl (by kernel_rfl) (fun _ _ _ h => h) (Or.inl ⟨by rfl, ?_⟩) ?_ ?_
        rotate_left
        · intro w'
          go_simp
          with_reducible rfl
        rotate_left
        · simp only [Act.put, List.setIfInBounds_toArray, List.set_cons_zero, List.set_cons_succ, i64_w, i32_w]
          rfl
        refine one_ (i := 14) (N := none) #[true, true, true, true, true, true, true, true, true, true, true, true, true, true, true] rfl rfl (by kernel_rfl) (by decide) (fun K hK => ?_)
        have hc1071 := blk_cellv (v := .int .i64 0) (HS.out.at2) 7 rfl
        have hz1072 := blk_fz (HS.out.at2) 7
        refine store_step (w1 := (World.setCell w1069 ⟨g735, 7, none⟩ (.int .i64 t1067))) (by rfl) rfl ?hr ?_
        case hr => first | (go_simp; done) | (go_simp; rfl)
        clear hc1071 hz1072
        intro w1070 hst
        have hq0 : Sep (fps []) w [b2 g575 a571 a572 a573 a574, b8 g578 0 0 0 0 0 0 0 0, b8 g735 t732 (wrap64 (a572 - 8)) (wrap64 ((wrap64 (a572 - 8)) + 1)) t901 t928 t912 t971 t1067, b10 g1055 t928 t928 t912, b9 g1064 t1061 2] (World.setCell w1069 ⟨g735, 7, none⟩ (.int .i64 t1067)) := (HS.out).set1 (l1 := [b2 g575 a571 a572 a573 a574, b8 g578 0 0 0 0 0 0 0 0]) (l2 := [b10 g1055 t928 t928 t912, b9 g1064 t1061 2]) 7 (.int .i64 t1067)
        have HS_ : Aside0 (Sep (fps []) w [b2 g575 a571 a572 a573 a574, b8 g578 0 0 0 0 0 0 0 0, b8 g735 t732 (wrap64 (a572 - 8)) (wrap64 ((wrap64 (a572 - 8)) + 1)) t901 t928 t912 t971 t1067, b10 g1055 t928 t928 t912, b9 g1064 t1061 2] w1070) := ⟨by rw [hst]; exact hq0⟩
        clear hq0
        clear HS hst
        have HS := HS_
        clear HS_
        refine hK.out _ _ (⟨blk_cellv (HS.out.at2) 4 rfl, blk_cellv (HS.out.at2) 5 rfl, blk_cellv (HS.out.at0) 3 rfl⟩) (fun hHeld => ?_)
        clear hK K
        refine done_ (by kernel_rfl) ?_
        replace HS : Aside0 (Sep (fps []) w [b8 g578 0 0 0 0 0 0 0 0, b8 g735 t732 (wrap64 (a572 - 8)) (wrap64 ((wrap64 (a572 - 8)) + 1)) t901 t928 t912 t971 t1067] w1070) := ⟨HS.out.sub (.cons _ (.cons_cons _ (.cons_cons _ (.cons _ (.cons _ .slnil)))))⟩
        have hc1073 : w1070.cell? ⟨g735, 0, none⟩ = some (.int .i64 t732) := blk_cellv (HS.out.at1) 0 rfl
        have hc1074 : w1070.cell? ⟨g735, 1, none⟩ = some (.int .i64 (wrap64 (a572 - 8))) := blk_cellv (HS.out.at1) 1 rfl
        have hc1075 : w1070.cell? ⟨g735, 2, none⟩ = some (.int .i64 (wrap64 ((wrap64 (a572 - 8)) + 1))) := blk_cellv (HS.out.at1) 2 rfl
        have hc1076 : w1070.cell? ⟨g735, 3, none⟩ = some (.int .i64 t901) := blk_cellv (HS.out.at1) 3 rfl
        have hc1077 : w1070.cell? ⟨g735, 4, none⟩ = some (.int .i64 t928) := blk_cellv (HS.out.at1) 4 rfl
        have hc1078 : w1070.cell? ⟨g735, 5, none⟩ = some (.int .i64 t912) := blk_cellv (HS.out.at1) 5 rfl
        have hc1079 : w1070.cell? ⟨g735, 6, none⟩ = some (.int .i64 t971) := blk_cellv (HS.out.at1) 6 rfl
        have hc1080 : w1070.cell? ⟨g735, 7, none⟩ = some (.int .i64 t1067) := blk_cellv (HS.out.at1) 7 rfl
        have hc1081 : w1070.cell? ⟨g578, 0, none⟩ = some (.int .i64 0) := blk_cellv (HS.out.at0) 0 rfl
        have hz1082 : w1070.frozen? ⟨g578, 0, none⟩ = false := blk_fz (HS.out.at0) 0
        have hc1083 : w1070.cell? ⟨g578, 1, none⟩ = some (.int .i64 0) := blk_cellv (HS.out.at0) 1 rfl
        have hz1084 : w1070.frozen? ⟨g578, 1, none⟩ = false := blk_fz (HS.out.at0) 1
        have hc1085 : w1070.cell? ⟨g578, 2, none⟩ = some (.int .i64 0) := blk_cellv (HS.out.at0) 2 rfl
        have hz1086 : w1070.frozen? ⟨g578, 2, none⟩ = false := blk_fz (HS.out.at0) 2
        have hc1087 : w1070.cell? ⟨g578, 3, none⟩ = some (.int .i64 0) := blk_cellv (HS.out.at0) 3 rfl
        have hz1088 : w1070.frozen? ⟨g578, 3, none⟩ = false := blk_fz (HS.out.at0) 3
        have hc1089 : w1070.cell? ⟨g578, 4, none⟩ = some (.int .i64 0) := blk_cellv (HS.out.at0) 4 rfl
        have hz1090 : w1070.frozen? ⟨g578, 4, none⟩ = false := blk_fz (HS.out.at0) 4
        have hc1091 : w1070.cell? ⟨g578, 5, none⟩ = some (.int .i64 0) := blk_cellv (HS.out.at0) 5 rfl
        have hz1092 : w1070.frozen? ⟨g578, 5, none⟩ = false := blk_fz (HS.out.at0) 5
        have hc1093 : w1070.cell? ⟨g578, 6, none⟩ = some (.int .i64 0) := blk_cellv (HS.out.at0) 6 rfl
        have hz1094 : w1070.frozen? ⟨g578, 6, none⟩ = false := blk_fz (HS.out.at0) 6
        have hc1095 : w1070.cell? ⟨g578, 7, none⟩ = some (.int .i64 0) := blk_cellv (HS.out.at0) 7 rfl
        have hz1096 : w1070.frozen? ⟨g578, 7, none⟩ = false := blk_fz (HS.out.at0) 7
        go_wp2_with (first | ((with_reducible refine gate_store (t := 120) (p := 2) rfl ?_); refine store_event (w1 := (World.setCell (World.setCell (World.setCell (World.setCell (World.setCell (World.setCell (World.setCell (World.setCell w1070 ⟨g578, 0, none⟩ (.int .i64 t732)) ⟨g578, 1, none⟩ (.int .i64 (wrap64 (a572 - 8)))) ⟨g578, 2, none⟩ (.int .i64 (wrap64 ((wrap64 (a572 - 8)) + 1)))) ⟨g578, 3, none⟩ (.int .i64 t901)) ⟨g578, 4, none⟩ (.int .i64 t928)) ⟨g578, 5, none⟩ (.int .i64 t912)) ⟨g578, 6, none⟩ (.int .i64 t971)) ⟨g578, 7, none⟩ (.int .i64 t1067))) rfl (t := 120) (p := 2) rfl rfl ?hr ?_; (case hr => first | (go_simp; done) | (go_simp; rfl)); intro w1097 hst; clear hc1073 hc1074 hc1075 hc1076 hc1077 hc1078 hc1079 hc1080 hc1081 hz1082 hc1083 hz1084 hc1085 hz1086 hc1087 hz1088 hc1089 hz1090 hc1091 hz1092 hc1093 hz1094 hc1095 hz1096; replace HS : Aside0 (Sep (fps []) w [b8 g578 t732 (wrap64 (a572 - 8)) (wrap64 ((wrap64 (a572 - 8)) + 1)) t901 t928 t912 t971 t1067, b8 g735 t732 (wrap64 (a572 - 8)) (wrap64 ((wrap64 (a572 - 8)) + 1)) t901 t928 t912 t971 t1067] w1097) := ⟨by rw [hst]; exact HS.out.setAll (l1 := []) (l2 := [b8 g735 t732 (wrap64 (a572 - 8)) (wrap64 ((wrap64 (a572 - 8)) + 1)) t901 t928 t912 t971 t1067]) [.int .i64 t732, .int .i64 (wrap64 (a572 - 8)), .int .i64 (wrap64 ((wrap64 (a572 - 8)) + 1)), .int .i64 t901, .int .i64 t928, .int .i64 t912, .int .i64 t971, .int .i64 t1067] rfl⟩; clear hst; replace HS : Aside0 (Sep (fps []) w [b8 g578 t732 (wrap64 (a572 - 8)) (wrap64 ((wrap64 (a572 - 8)) + 1)) t901 t928 t912 t971 t1067] w1097) := ⟨HS.out.sub (.cons_cons _ (.cons _ .slnil))⟩))
        have hc1098 : w1097.cell? ⟨g578, 0, none⟩ = some (.int .i64 t732) := blk_cellv (HS.out.at0) 0 rfl
        have hc1099 : w1097.cell? ⟨g578, 1, none⟩ = some (.int .i64 (wrap64 (a572 - 8))) := blk_cellv (HS.out.at0) 1 rfl
        have hc1100 : w1097.cell? ⟨g578, 2, none⟩ = some (.int .i64 (wrap64 ((wrap64 (a572 - 8)) + 1))) := blk_cellv (HS.out.at0) 2 rfl
        have hc1101 : w1097.cell? ⟨g578, 3, none⟩ = some (.int .i64 t901) := blk_cellv (HS.out.at0) 3 rfl
        have hc1102 : w1097.cell? ⟨g578, 4, none⟩ = some (.int .i64 t928) := blk_cellv (HS.out.at0) 4 rfl
        have hc1103 : w1097.cell? ⟨g578, 5, none⟩ = some (.int .i64 t912) := blk_cellv (HS.out.at0) 5 rfl
        have hc1104 : w1097.cell? ⟨g578, 6, none⟩ = some (.int .i64 t971) := blk_cellv (HS.out.at0) 6 rfl
        have hc1105 : w1097.cell? ⟨g578, 7, none⟩ = some (.int .i64 t1067) := blk_cellv (HS.out.at0) 7 rfl
        refine bodyPost_ret (v := .tuple #[.agg #[.int .i64 t732, .int .i64 (wrap64 (a572 - 8)), .int .i64 (wrap64 ((wrap64 (a572 - 8)) + 1)), .int .i64 t901, .int .i64 t928, .int .i64 t912, .int .i64 t971, .int .i64 t1067], .int .i64 0]) (by simp [results, Try.results76, go_sem, hc1098, hc1099, hc1100, hc1101, hc1102, hc1103, hc1104, hc1105]) rfl ?_
        rw [← some_eq H]
        exact ⟨(by first | rfl | (simp [IntKind.wrap_u32]; done)), HS.out.sub (.cons _ .slnil)⟩
  · have H := if_no c629 H
    have c629b0 : (t626 == 0) = false := beq_eq_false_iff_ne.mpr c629
    have c629b1 : (t626 != 0) = true := bne_iff_ne.mpr c629
    clear c629
    have hc1106 : w628.cell? ⟨g578, 0, none⟩ = some (.int .i64 0) := blk_cellv (HS.out.at1) 0 rfl
    have hz1107 : w628.frozen? ⟨g578, 0, none⟩ = false := blk_fz (HS.out.at1) 0
    have hc1108 : w628.cell? ⟨g578, 1, none⟩ = some (.int .i64 0) := blk_cellv (HS.out.at1) 1 rfl
    have hz1109 : w628.frozen? ⟨g578, 1, none⟩ = false := blk_fz (HS.out.at1) 1
    have hc1110 : w628.cell? ⟨g578, 2, none⟩ = some (.int .i64 0) := blk_cellv (HS.out.at1) 2 rfl
    have hz1111 : w628.frozen? ⟨g578, 2, none⟩ = false := blk_fz (HS.out.at1) 2
    have hc1112 : w628.cell? ⟨g578, 3, none⟩ = some (.int .i64 0) := blk_cellv (HS.out.at1) 3 rfl
    have hz1113 : w628.frozen? ⟨g578, 3, none⟩ = false := blk_fz (HS.out.at1) 3
    have hc1114 : w628.cell? ⟨g578, 4, none⟩ = some (.int .i64 0) := blk_cellv (HS.out.at1) 4 rfl
    have hz1115 : w628.frozen? ⟨g578, 4, none⟩ = false := blk_fz (HS.out.at1) 4
    have hc1116 : w628.cell? ⟨g578, 5, none⟩ = some (.int .i64 0) := blk_cellv (HS.out.at1) 5 rfl
    have hz1117 : w628.frozen? ⟨g578, 5, none⟩ = false := blk_fz (HS.out.at1) 5
    have hc1118 : w628.cell? ⟨g578, 6, none⟩ = some (.int .i64 0) := blk_cellv (HS.out.at1) 6 rfl
    have hz1119 : w628.frozen? ⟨g578, 6, none⟩ = false := blk_fz (HS.out.at1) 6
    have hc1120 : w628.cell? ⟨g578, 7, none⟩ = some (.int .i64 0) := blk_cellv (HS.out.at1) 7 rfl
    have hz1121 : w628.frozen? ⟨g578, 7, none⟩ = false := blk_fz (HS.out.at1) 7
    go_wp2_with (first | ((with_reducible refine gate_store (t := 120) (p := 2) rfl ?_); refine store_event (w1 := (World.setCell (World.setCell (World.setCell (World.setCell (World.setCell (World.setCell (World.setCell (World.setCell w628 ⟨g578, 0, none⟩ (.int .i64 0)) ⟨g578, 1, none⟩ (.int .i64 0)) ⟨g578, 2, none⟩ (.int .i64 0)) ⟨g578, 3, none⟩ (.int .i64 0)) ⟨g578, 4, none⟩ (.int .i64 0)) ⟨g578, 5, none⟩ (.int .i64 0)) ⟨g578, 6, none⟩ (.int .i64 0)) ⟨g578, 7, none⟩ (.int .i64 0))) rfl (t := 120) (p := 2) rfl rfl ?hr ?_; (case hr => first | (go_simp; done) | (go_simp; rfl)); intro w1122 hst; clear hc1106 hz1107 hc1108 hz1109 hc1110 hz1111 hc1112 hz1113 hc1114 hz1115 hc1116 hz1117 hc1118 hz1119 hc1120 hz1121; replace HS : Aside0 (Sep (fps []) w [b2 g575 a571 a572 a573 a574, b8 g578 0 0 0 0 0 0 0 0] w1122) := ⟨by rw [hst]; exact HS.out.setAll (l1 := [b2 g575 a571 a572 a573 a574]) (l2 := []) [.int .i64 0, .int .i64 0, .int .i64 0, .int .i64 0, .int .i64 0, .int .i64 0, .int .i64 0, .int .i64 0] rfl⟩; clear hst; replace HS : Aside0 (Sep (fps []) w [b8 g578 0 0 0 0 0 0 0 0] w1122) := ⟨HS.out.sub (.cons _ (.cons_cons _ .slnil))⟩))
    have hc1123 : w1122.cell? ⟨g578, 0, none⟩ = some (.int .i64 0) := blk_cellv (HS.out.at0) 0 rfl
    have hc1124 : w1122.cell? ⟨g578, 1, none⟩ = some (.int .i64 0) := blk_cellv (HS.out.at0) 1 rfl
    have hc1125 : w1122.cell? ⟨g578, 2, none⟩ = some (.int .i64 0) := blk_cellv (HS.out.at0) 2 rfl
    have hc1126 : w1122.cell? ⟨g578, 3, none⟩ = some (.int .i64 0) := blk_cellv (HS.out.at0) 3 rfl
    have hc1127 : w1122.cell? ⟨g578, 4, none⟩ = some (.int .i64 0) := blk_cellv (HS.out.at0) 4 rfl
    have hc1128 : w1122.cell? ⟨g578, 5, none⟩ = some (.int .i64 0) := blk_cellv (HS.out.at0) 5 rfl
    have hc1129 : w1122.cell? ⟨g578, 6, none⟩ = some (.int .i64 0) := blk_cellv (HS.out.at0) 6 rfl
    have hc1130 : w1122.cell? ⟨g578, 7, none⟩ = some (.int .i64 0) := blk_cellv (HS.out.at0) 7 rfl
    refine bodyPost_ret (v := .tuple #[.agg #[.int .i64 0, .int .i64 0, .int .i64 0, .int .i64 0, .int .i64 0, .int .i64 0, .int .i64 0, .int .i64 0], .int .i64 t626]) (by simp [results, Try.results76, go_sem, hc1123, hc1124, hc1125, hc1126, hc1127, hc1128, hc1129, hc1130]) rfl ?_
    rw [← some_eq H]
    exact ⟨(by first | rfl | (simp [IntKind.wrap_u32]; done)), HS.out.sub (.cons _ .slnil)⟩

set_option maxHeartbeats 30000000 in
set_option maxRecDepth 100000 in
theorem store_New.calls (a1156 : Int) (r : Unit ⊕ (List Int)) (w : World)   (HS : Aside0 (Sep (fps []) w [] w)) (H : Aside0 (store_New.f a1156 = some r)) :
    Calls Try.prog 17 #[.int .i64 a1156] w fun e w' => Sum.elim (fun (r : Unit) => e = .returned (.tuple #[.pointer none, .int .i64 2]) ∧ Sep (fps []) w [] w') (fun (r : List Int) => ∃ (g1192 : Nat), e = .returned (.tuple #[.pointer (some ⟨g1192, 0, none⟩), .int .i64 0]) ∧ ∃ (A1193 : Option Addr) (m1194 : Nat) (n1195 : Nat), Sep (fps []) w [b12 g1192 A1193 m1194 n1195 0, r11 A1193 m1194 n1195 r] w') r := by
  unfold store_New.f at H
  go_enter Try.func17, Try.ntmps17
  by_cases c1170 : a1156 < 0
  · have H := if_yes c1170 H
    have c1170b0 : decide (a1156 < 0) = true := decide_eq_true c1170
    clear c1170
    go_wp2_with fail
    go_ret2
    rw [← some_eq H]
    exact ⟨(by first | rfl | (simp [IntKind.wrap_u32]; done)), HS.out⟩
  · have H := if_no c1170 H
    have c1170b0 : decide (a1156 < 0) = false := decide_eq_false c1170
    clear c1170
    by_cases c1171 : a1156 > 8388608
    · have H := if_yes c1171 H
      have c1171b0 : decide (8388608 < a1156) = true := decide_eq_true c1171
      clear c1171
      go_wp2_with fail
      go_ret2
      rw [← some_eq H]
      exact ⟨(by first | rfl | (simp [IntKind.wrap_u32]; done)), HS.out⟩
    · have H := if_no c1171 H
      have c1171b0 : decide (8388608 < a1156) = false := decide_eq_false c1171
      clear c1171
      obtain ⟨m1172, HA1173, H⟩ := bind_some H
      obtain ⟨hm1174, hn1175⟩ := mkLen_eq HA1173
      have hm1174H := Aside0.mk hm1174
      clear hm1174
      go_wp2_with (first | ((with_reducible refine gate_dst (N := 11) rfl ?_); refine make_event rfl (N := 11) rfl 22 23 (.tmp 10) (.tmp 10) rfl .i64 (.int .u32 0) 4 Try.underlying22 (by kernel_rfl) rfl (by decide) (Value.int .u32) 0 rfl m1172 (by show Value.int _ _ = _; rw [hm1174H.out]) (by show Value.int _ _ = _; rw [hm1174H.out]) (by omega) HS.out ?_; intro g1176 w1177 HS1; replace HS : Aside0 (Sep (fps []) w [r11 (some ⟨g1176, 0, none⟩) m1172 m1172 (List.replicate m1172 (0 : Int))] w1177) := ⟨HS1⟩; clear HS1) | ((with_reducible refine gate_dst (N := 13) rfl ?_); refine box_on ?hg (N := 13) ?hd (cs := #[.slice (some ⟨g1176, 0, none⟩) m1172 m1172, .int .u64 0]) (t := 115) ?hr ?_; (case hd => rfl); (case hg => rfl); (case hr => first | (go_simp; done) | (go_simp; rfl)); intro g1180 hg w1181 hbox hb; replace HS : Aside0 (Sep (fps []) w [r11 (some ⟨g1176, 0, none⟩) m1172 m1172 (List.replicate m1172 (0 : Int)), b12 g1180 (some ⟨g1176, 0, none⟩) m1172 m1172 0] w1181) := ⟨HS.out.box hg hbox hb⟩; clear hg hbox hb))
      go_ret2
      rw [← some_eq H]
      exact ⟨g1180, (by first | rfl | (simp [IntKind.wrap_u32]; done)), (some ⟨g1176, 0, none⟩), m1172, m1172, ((HS.out).front 1 (by simp)).keep (l := [b12 g1180 (some ⟨g1176, 0, none⟩) m1172 m1172 0, r11 (some ⟨g1176, 0, none⟩) m1172 m1172 (List.replicate m1172 (0 : Int))]) (rest := [])⟩

set_option maxHeartbeats 30000000 in
set_option maxRecDepth 100000 in
theorem ground_New.calls (k : Nat) (a560 : Int) (a561 : Int) (a562 : Int) (a563 : Int) (r : Unit ⊕ ((Int × Int × Int × Int × List Int) ⊕ Int)) (w : World)   (HS : Aside0 (Sep (fps []) w [] w)) (H : Aside0 (ground_New.f k a560 a561 a562 a563 = some r)) :
    Calls Try.prog 29 #[.agg #[.int .i64 a560, .int .i64 a561, .int .i64 a562, .int .i64 a563]] w fun e w' => Sum.elim (fun (r : Unit) => e = .returned (.tuple #[.pointer none, .int .i64 2]) ∧ Sep (fps []) w [] w') (fun (r_ : (Int × Int × Int × Int × List Int) ⊕ Int) => Sum.elim (fun (r : Int × Int × Int × Int × List Int) => ∃ (g1342 : Nat), e = .returned (.tuple #[.pointer (some ⟨g1342, 0, none⟩), .int .i64 0]) ∧ ∃ (g1343 : Nat) (A1344 : Option Addr) (m1345 : Nat) (n1346 : Nat), Sep (fps []) w [b13 g1342 g1343 r.1 r.2.1 r.2.2.1 r.2.2.2.1, b12 g1343 A1344 m1345 n1346 0, r11 A1344 m1345 n1346 r.2.2.2.2] w') (fun (r : Int) => e = .returned (.tuple #[.pointer none, .int .i64 r]) ∧ Sep (fps []) w [] w') r_) r := by
  unfold ground_New.f at H
  go_enter Try.func29, Try.ntmps29
  go_wp2_with (first | ((with_reducible refine gate_dst (N := 1) rfl ?_); refine box_on ?hg (N := 1) ?hd (cs := #[.int .i64 a560, .int .i64 a561, .int .i64 a562, .int .i64 a563]) (t := 49) ?hr ?_; (case hd => rfl); (case hg => rfl); (case hr => first | (go_simp; done) | (go_simp; rfl)); intro g1278 hg w1279 hbox hb; replace HS : Aside0 (Sep (fps []) w [b2 g1278 a560 a561 a562 a563] w1279) := ⟨HS.out.box hg hbox hb⟩; clear hg hbox hb; have hc1281 : w1279.cell? ⟨g1278, 0, none⟩ = some (.int .i64 a560) := blk_cellv (HS.out.at0) 0 rfl; have hc1282 : w1279.cell? ⟨g1278, 1, none⟩ = some (.int .i64 a561) := blk_cellv (HS.out.at0) 1 rfl; have hc1283 : w1279.cell? ⟨g1278, 2, none⟩ = some (.int .i64 a562) := blk_cellv (HS.out.at0) 2 rfl; have hc1284 : w1279.cell? ⟨g1278, 3, none⟩ = some (.int .i64 a563) := blk_cellv (HS.out.at0) 3 rfl))
  clear hc1281 hc1282 hc1283 hc1284
  obtain ⟨t1285, HA1286, H⟩ := bind_some H
  refine (plan_Of.calls _ a560 a561 a562 a563 t1285 _ ⟨Sep.start _⟩ HA1286).mono ?_
  rintro e_ w1287 ⟨rfl, hS⟩
  replace HS : Aside0 (Sep (fps []) w [b2 g1278 a560 a561 a562 a563] w1287) := ⟨HS.out.call hS⟩
  clear hS
  by_cases c1308 : t1285.2.2.2.2.2.2.2.2 = 0
  · have H := if_yes c1308 H
    have c1308b0 : (t1285.2.2.2.2.2.2.2.2 == 0) = true := beq_iff_eq.mpr c1308
    have c1308b1 : (t1285.2.2.2.2.2.2.2.2 != 0) = false := bne_eq_false_iff_eq.mpr c1308
    clear c1308
    go_wp2_with (first | ((with_reducible refine gate_dst (N := 4) rfl ?_); refine box_on ?hg (N := 4) ?hd (cs := #[.int .i64 0, .int .i64 0, .int .i64 0, .int .i64 0, .int .i64 0, .int .i64 0, .int .i64 0, .int .i64 0]) (t := 120) ?hr ?_; (case hd => rfl); (case hg => rfl); (case hr => first | (go_simp; done) | (go_simp; rfl)); intro g1288 hg w1289 hbox hb; replace HS : Aside0 (Sep (fps []) w [b2 g1278 a560 a561 a562 a563, b8 g1288 0 0 0 0 0 0 0 0] w1289) := ⟨HS.out.box hg hbox hb⟩; clear hg hbox hb; have hc1291 : w1289.cell? ⟨g1288, 0, none⟩ = some (.int .i64 0) := blk_cellv (HS.out.at1) 0 rfl; have hz1292 : w1289.frozen? ⟨g1288, 0, none⟩ = false := blk_fz (HS.out.at1) 0; have hc1293 : w1289.cell? ⟨g1288, 1, none⟩ = some (.int .i64 0) := blk_cellv (HS.out.at1) 1 rfl; have hz1294 : w1289.frozen? ⟨g1288, 1, none⟩ = false := blk_fz (HS.out.at1) 1; have hc1295 : w1289.cell? ⟨g1288, 2, none⟩ = some (.int .i64 0) := blk_cellv (HS.out.at1) 2 rfl; have hz1296 : w1289.frozen? ⟨g1288, 2, none⟩ = false := blk_fz (HS.out.at1) 2; have hc1297 : w1289.cell? ⟨g1288, 3, none⟩ = some (.int .i64 0) := blk_cellv (HS.out.at1) 3 rfl; have hz1298 : w1289.frozen? ⟨g1288, 3, none⟩ = false := blk_fz (HS.out.at1) 3; have hc1299 : w1289.cell? ⟨g1288, 4, none⟩ = some (.int .i64 0) := blk_cellv (HS.out.at1) 4 rfl; have hz1300 : w1289.frozen? ⟨g1288, 4, none⟩ = false := blk_fz (HS.out.at1) 4; have hc1301 : w1289.cell? ⟨g1288, 5, none⟩ = some (.int .i64 0) := blk_cellv (HS.out.at1) 5 rfl; have hz1302 : w1289.frozen? ⟨g1288, 5, none⟩ = false := blk_fz (HS.out.at1) 5; have hc1303 : w1289.cell? ⟨g1288, 6, none⟩ = some (.int .i64 0) := blk_cellv (HS.out.at1) 6 rfl; have hz1304 : w1289.frozen? ⟨g1288, 6, none⟩ = false := blk_fz (HS.out.at1) 6; have hc1305 : w1289.cell? ⟨g1288, 7, none⟩ = some (.int .i64 0) := blk_cellv (HS.out.at1) 7 rfl; have hz1306 : w1289.frozen? ⟨g1288, 7, none⟩ = false := blk_fz (HS.out.at1) 7) | ((with_reducible refine gate_store (t := 120) (p := 4) rfl ?_); refine store_event (w1 := (World.setCell (World.setCell (World.setCell (World.setCell (World.setCell (World.setCell (World.setCell (World.setCell w1289 ⟨g1288, 0, none⟩ (.int .i64 t1285.1)) ⟨g1288, 1, none⟩ (.int .i64 t1285.2.1)) ⟨g1288, 2, none⟩ (.int .i64 t1285.2.2.1)) ⟨g1288, 3, none⟩ (.int .i64 t1285.2.2.2.1)) ⟨g1288, 4, none⟩ (.int .i64 t1285.2.2.2.2.1)) ⟨g1288, 5, none⟩ (.int .i64 t1285.2.2.2.2.2.1)) ⟨g1288, 6, none⟩ (.int .i64 t1285.2.2.2.2.2.2.1)) ⟨g1288, 7, none⟩ (.int .i64 t1285.2.2.2.2.2.2.2.1))) rfl (t := 120) (p := 4) rfl rfl ?hr ?_; (case hr => first | (go_simp; done) | (go_simp; rfl)); intro w1307 hst; clear hc1291 hz1292 hc1293 hz1294 hc1295 hz1296 hc1297 hz1298 hc1299 hz1300 hc1301 hz1302 hc1303 hz1304 hc1305 hz1306; replace HS : Aside0 (Sep (fps []) w [b2 g1278 a560 a561 a562 a563, b8 g1288 t1285.1 t1285.2.1 t1285.2.2.1 t1285.2.2.2.1 t1285.2.2.2.2.1 t1285.2.2.2.2.2.1 t1285.2.2.2.2.2.2.1 t1285.2.2.2.2.2.2.2.1] w1307) := ⟨by rw [hst]; exact HS.out.setAll (l1 := [b2 g1278 a560 a561 a562 a563]) (l2 := []) [.int .i64 t1285.1, .int .i64 t1285.2.1, .int .i64 t1285.2.2.1, .int .i64 t1285.2.2.2.1, .int .i64 t1285.2.2.2.2.1, .int .i64 t1285.2.2.2.2.2.1, .int .i64 t1285.2.2.2.2.2.2.1, .int .i64 t1285.2.2.2.2.2.2.2.1] rfl⟩; clear hst; have hc1309 : w1307.cell? ⟨g1288, 0, none⟩ = some (.int .i64 t1285.1) := blk_cellv (HS.out.at1) 0 rfl))
    clear hc1309
    obtain ⟨t1310, HA1311, H⟩ := bind_some H
    rcases t1310 with t1312 | t1313
    · have H := sum_l H
      refine (store_New.calls t1285.1 (.inl t1312) _ ⟨Sep.start _⟩ HA1311).mono ?_
      rintro e_ w1314 ⟨rfl, hS⟩
      replace HS : Aside0 (Sep (fps []) w [b2 g1278 a560 a561 a562 a563, b8 g1288 t1285.1 t1285.2.1 t1285.2.2.1 t1285.2.2.2.1 t1285.2.2.2.2.1 t1285.2.2.2.2.2.1 t1285.2.2.2.2.2.2.1 t1285.2.2.2.2.2.2.2.1] w1314) := ⟨HS.out.call hS⟩
      clear hS
      replace HS : Aside0 (Sep (fps []) w [b2 g1278 a560 a561 a562 a563] w1314) := ⟨HS.out.sub (.cons_cons _ (.cons _ .slnil))⟩
      replace HS : Aside0 (Sep (fps []) w [] w1314) := ⟨HS.out.sub (.cons _ .slnil)⟩
      go_wp2_with fail
      go_ret2
      rw [← some_eq H]
      exact ⟨(by first | rfl | (simp [IntKind.wrap_u32]; done)), HS.out⟩
    · have H := sum_r H
      refine (store_New.calls t1285.1 (.inr t1313) _ ⟨Sep.start _⟩ HA1311).mono ?_
      rintro e_ w1315 ⟨g1318, rfl, A1319, m1320, n1321, hS⟩
      replace HS : Aside0 (Sep (fps []) w [b12 g1318 A1319 m1320 n1321 0, r11 A1319 m1320 n1321 t1313, b2 g1278 a560 a561 a562 a563, b8 g1288 t1285.1 t1285.2.1 t1285.2.2.1 t1285.2.2.2.1 t1285.2.2.2.2.1 t1285.2.2.2.2.2.1 t1285.2.2.2.2.2.2.1 t1285.2.2.2.2.2.2.2.1] w1315) := ⟨HS.out.call hS⟩
      clear hS
      obtain rfl := (row_len (HS.out.at1)).symm
      replace HS : Aside0 (Sep (fps []) w [b12 g1318 A1319 t1313.length n1321 0, r11 A1319 t1313.length n1321 t1313, b2 g1278 a560 a561 a562 a563] w1315) := ⟨HS.out.sub (.cons_cons _ (.cons_cons _ (.cons_cons _ (.cons _ .slnil))))⟩
      have hc1323 : w1315.cell? ⟨g1278, 0, none⟩ = some (.int .i64 a560) := blk_cellv (HS.out.at2) 0 rfl
      have hc1324 : w1315.cell? ⟨g1278, 1, none⟩ = some (.int .i64 a561) := blk_cellv (HS.out.at2) 1 rfl
      have hc1325 : w1315.cell? ⟨g1278, 2, none⟩ = some (.int .i64 a562) := blk_cellv (HS.out.at2) 2 rfl
      have hc1326 : w1315.cell? ⟨g1278, 3, none⟩ = some (.int .i64 a563) := blk_cellv (HS.out.at2) 3 rfl
      go_wp2_with (first | ((with_reducible refine gate_dst (N := 28) rfl ?_); refine box_on ?hg (N := 28) ?hd (cs := #[.pointer (some ⟨g1318, 0, none⟩), .int .i64 a560, .int .i64 a561, .int .i64 a562, .int .i64 a563]) (t := 126) ?hr ?_; (case hd => rfl); (case hg => rfl); (case hr => first | (go_simp; done) | (go_simp; rfl)); intro g1327 hg w1328 hbox hb; clear hc1323 hc1324 hc1325 hc1326; replace HS : Aside0 (Sep (fps []) w [b12 g1318 A1319 t1313.length n1321 0, r11 A1319 t1313.length n1321 t1313, b2 g1278 a560 a561 a562 a563, b13 g1327 g1318 a560 a561 a562 a563] w1328) := ⟨HS.out.box hg hbox hb⟩; clear hg hbox hb; replace HS : Aside0 (Sep (fps []) w [b12 g1318 A1319 t1313.length n1321 0, r11 A1319 t1313.length n1321 t1313, b13 g1327 g1318 a560 a561 a562 a563] w1328) := ⟨HS.out.sub (.cons_cons _ (.cons_cons _ (.cons _ (.cons_cons _ .slnil))))⟩))
      go_ret2
      rw [← some_eq H]
      exact ⟨g1327, (by first | rfl | (simp [IntKind.wrap_u32]; done)), g1318, A1319, t1313.length, n1321, ((((HS.out).front 1 (by simp)).front 1 (by simp)).front 2 (by simp)).keep (l := [b13 g1327 g1318 a560 a561 a562 a563, b12 g1318 A1319 t1313.length n1321 0, r11 A1319 t1313.length n1321 t1313]) (rest := [])⟩
  · have H := if_no c1308 H
    have c1308b0 : (t1285.2.2.2.2.2.2.2.2 == 0) = false := beq_eq_false_iff_ne.mpr c1308
    have c1308b1 : (t1285.2.2.2.2.2.2.2.2 != 0) = true := bne_iff_ne.mpr c1308
    clear c1308
    go_wp2_with (first | ((with_reducible refine gate_dst (N := 4) rfl ?_); refine box_on ?hg (N := 4) ?hd (cs := #[.int .i64 0, .int .i64 0, .int .i64 0, .int .i64 0, .int .i64 0, .int .i64 0, .int .i64 0, .int .i64 0]) (t := 120) ?hr ?_; (case hd => rfl); (case hg => rfl); (case hr => first | (go_simp; done) | (go_simp; rfl)); intro g1288 hg w1289 hbox hb; replace HS : Aside0 (Sep (fps []) w [b2 g1278 a560 a561 a562 a563, b8 g1288 0 0 0 0 0 0 0 0] w1289) := ⟨HS.out.box hg hbox hb⟩; clear hg hbox hb; have hc1291 : w1289.cell? ⟨g1288, 0, none⟩ = some (.int .i64 0) := blk_cellv (HS.out.at1) 0 rfl; have hz1292 : w1289.frozen? ⟨g1288, 0, none⟩ = false := blk_fz (HS.out.at1) 0; have hc1293 : w1289.cell? ⟨g1288, 1, none⟩ = some (.int .i64 0) := blk_cellv (HS.out.at1) 1 rfl; have hz1294 : w1289.frozen? ⟨g1288, 1, none⟩ = false := blk_fz (HS.out.at1) 1; have hc1295 : w1289.cell? ⟨g1288, 2, none⟩ = some (.int .i64 0) := blk_cellv (HS.out.at1) 2 rfl; have hz1296 : w1289.frozen? ⟨g1288, 2, none⟩ = false := blk_fz (HS.out.at1) 2; have hc1297 : w1289.cell? ⟨g1288, 3, none⟩ = some (.int .i64 0) := blk_cellv (HS.out.at1) 3 rfl; have hz1298 : w1289.frozen? ⟨g1288, 3, none⟩ = false := blk_fz (HS.out.at1) 3; have hc1299 : w1289.cell? ⟨g1288, 4, none⟩ = some (.int .i64 0) := blk_cellv (HS.out.at1) 4 rfl; have hz1300 : w1289.frozen? ⟨g1288, 4, none⟩ = false := blk_fz (HS.out.at1) 4; have hc1301 : w1289.cell? ⟨g1288, 5, none⟩ = some (.int .i64 0) := blk_cellv (HS.out.at1) 5 rfl; have hz1302 : w1289.frozen? ⟨g1288, 5, none⟩ = false := blk_fz (HS.out.at1) 5; have hc1303 : w1289.cell? ⟨g1288, 6, none⟩ = some (.int .i64 0) := blk_cellv (HS.out.at1) 6 rfl; have hz1304 : w1289.frozen? ⟨g1288, 6, none⟩ = false := blk_fz (HS.out.at1) 6; have hc1305 : w1289.cell? ⟨g1288, 7, none⟩ = some (.int .i64 0) := blk_cellv (HS.out.at1) 7 rfl; have hz1306 : w1289.frozen? ⟨g1288, 7, none⟩ = false := blk_fz (HS.out.at1) 7) | ((with_reducible refine gate_store (t := 120) (p := 4) rfl ?_); refine store_event (w1 := (World.setCell (World.setCell (World.setCell (World.setCell (World.setCell (World.setCell (World.setCell (World.setCell w1289 ⟨g1288, 0, none⟩ (.int .i64 t1285.1)) ⟨g1288, 1, none⟩ (.int .i64 t1285.2.1)) ⟨g1288, 2, none⟩ (.int .i64 t1285.2.2.1)) ⟨g1288, 3, none⟩ (.int .i64 t1285.2.2.2.1)) ⟨g1288, 4, none⟩ (.int .i64 t1285.2.2.2.2.1)) ⟨g1288, 5, none⟩ (.int .i64 t1285.2.2.2.2.2.1)) ⟨g1288, 6, none⟩ (.int .i64 t1285.2.2.2.2.2.2.1)) ⟨g1288, 7, none⟩ (.int .i64 t1285.2.2.2.2.2.2.2.1))) rfl (t := 120) (p := 4) rfl rfl ?hr ?_; (case hr => first | (go_simp; done) | (go_simp; rfl)); intro w1307 hst; clear hc1291 hz1292 hc1293 hz1294 hc1295 hz1296 hc1297 hz1298 hc1299 hz1300 hc1301 hz1302 hc1303 hz1304 hc1305 hz1306; replace HS : Aside0 (Sep (fps []) w [b2 g1278 a560 a561 a562 a563, b8 g1288 t1285.1 t1285.2.1 t1285.2.2.1 t1285.2.2.2.1 t1285.2.2.2.2.1 t1285.2.2.2.2.2.1 t1285.2.2.2.2.2.2.1 t1285.2.2.2.2.2.2.2.1] w1307) := ⟨by rw [hst]; exact HS.out.setAll (l1 := [b2 g1278 a560 a561 a562 a563]) (l2 := []) [.int .i64 t1285.1, .int .i64 t1285.2.1, .int .i64 t1285.2.2.1, .int .i64 t1285.2.2.2.1, .int .i64 t1285.2.2.2.2.1, .int .i64 t1285.2.2.2.2.2.1, .int .i64 t1285.2.2.2.2.2.2.1, .int .i64 t1285.2.2.2.2.2.2.2.1] rfl⟩; clear hst; replace HS : Aside0 (Sep (fps []) w [] w1307) := ⟨HS.out.sub (.cons _ (.cons _ .slnil))⟩))
    go_ret2
    rw [← some_eq H]
    exact ⟨(by first | rfl | (simp [IntKind.wrap_u32]; done)), HS.out⟩

set_option maxHeartbeats 30000000 in
set_option maxRecDepth 100000 in
theorem chain_of.calls (l1400 : List Int) (a1405 : Int) (a1406 : Int) (a1407 : Int) (a1408 : Int) (a1409 : Int) (a1410 : Int) (g1396 : Nat) (g1398 : Nat) (A1401 : Option Addr) (m1402 : Nat) (n1403 : Nat) (r : Int × Int × Int × Bool) (w : World)   (HS : Aside0 (Sep (fps [b13 g1396 g1398 a1406 a1407 a1408 a1409, b12 g1398 A1401 m1402 n1403 a1405, r11 A1401 m1402 n1403 l1400]) w [b13 g1396 g1398 a1406 a1407 a1408 a1409, b12 g1398 A1401 m1402 n1403 a1405, r11 A1401 m1402 n1403 l1400] w)) (H : Aside0 (chain_of.f l1400 a1405 a1406 a1407 a1408 a1409 a1410 = some r)) :
    Calls Try.prog 91 #[.pointer (some ⟨g1396, 0, none⟩), .int .i64 a1410] w fun e w' => e = .returned (.tuple #[.agg #[.int .i64 r.1, .int .i64 r.2.1, .int .i64 r.2.2.1], .bool r.2.2.2]) ∧ Sep (fps [b13 g1396 g1398 a1406 a1407 a1408 a1409, b12 g1398 A1401 m1402 n1403 a1405, r11 A1401 m1402 n1403 l1400]) w [b13 g1396 g1398 a1406 a1407 a1408 a1409, b12 g1398 A1401 m1402 n1403 a1405, r11 A1401 m1402 n1403 l1400] w' := by
  generalize (fps [b13 g1396 g1398 a1406 a1407 a1408 a1409, b12 g1398 A1401 m1402 n1403 a1405, r11 A1401 m1402 n1403 l1400]) = FF at HS ⊢
  obtain rfl := (row_len (HS.out.at2)).symm
  unfold chain_of.f at H
  go_enter Try.func91, Try.ntmps91
  by_cases c1414 : a1410 < 0
  · have H := if_yes c1414 H
    have c1414b0 : decide (a1410 < 0) = true := decide_eq_true c1414
    clear c1414
    go_wp2_with (first | ((with_reducible refine gate_dst (N := 4) rfl ?_); refine box_on ?hg (N := 4) ?hd (cs := #[.int .i64 0, .int .i64 0, .int .i64 0]) (t := 134) ?hr ?_; (case hd => rfl); (case hg => rfl); (case hr => first | (go_simp; done) | (go_simp; rfl)); intro g1411 hg w1412 hbox hb; replace HS : Aside0 (Sep FF w [b13 g1396 g1398 a1406 a1407 a1408 a1409, b12 g1398 A1401 l1400.length n1403 a1405, r11 A1401 l1400.length n1403 l1400, b1 g1411 0 0 0] w1412) := ⟨HS.out.box hg hbox hb⟩; clear hg hbox hb; have hc1415 : w1412.cell? ⟨g1411, 0, none⟩ = some (.int .i64 0) := blk_cellv (HS.out.at3) 0 rfl; have hz1416 : w1412.frozen? ⟨g1411, 0, none⟩ = false := blk_fz (HS.out.at3) 0; have hc1417 : w1412.cell? ⟨g1411, 1, none⟩ = some (.int .i64 0) := blk_cellv (HS.out.at3) 1 rfl; have hz1418 : w1412.frozen? ⟨g1411, 1, none⟩ = false := blk_fz (HS.out.at3) 1; have hc1419 : w1412.cell? ⟨g1411, 2, none⟩ = some (.int .i64 0) := blk_cellv (HS.out.at3) 2 rfl; have hz1420 : w1412.frozen? ⟨g1411, 2, none⟩ = false := blk_fz (HS.out.at3) 2) | ((with_reducible refine gate_store (t := 134) (p := 4) rfl ?_); refine store_event (w1 := (World.setCell (World.setCell (World.setCell w1412 ⟨g1411, 0, none⟩ (.int .i64 0)) ⟨g1411, 1, none⟩ (.int .i64 0)) ⟨g1411, 2, none⟩ (.int .i64 0))) rfl (t := 134) (p := 4) rfl rfl ?hr ?_; (case hr => first | (go_simp; done) | (go_simp; rfl)); intro w1421 hst; clear hc1415 hz1416 hc1417 hz1418 hc1419 hz1420; replace HS : Aside0 (Sep FF w [b13 g1396 g1398 a1406 a1407 a1408 a1409, b12 g1398 A1401 l1400.length n1403 a1405, r11 A1401 l1400.length n1403 l1400, b1 g1411 0 0 0] w1421) := ⟨by rw [hst]; exact HS.out.setAll (l1 := [b13 g1396 g1398 a1406 a1407 a1408 a1409, b12 g1398 A1401 l1400.length n1403 a1405, r11 A1401 l1400.length n1403 l1400]) (l2 := []) [.int .i64 0, .int .i64 0, .int .i64 0] rfl⟩; clear hst))
    have hc1422 : w1421.cell? ⟨g1411, 0, none⟩ = some (.int .i64 0) := blk_cellv (HS.out.at3) 0 rfl
    have hc1423 : w1421.cell? ⟨g1411, 1, none⟩ = some (.int .i64 0) := blk_cellv (HS.out.at3) 1 rfl
    have hc1424 : w1421.cell? ⟨g1411, 2, none⟩ = some (.int .i64 0) := blk_cellv (HS.out.at3) 2 rfl
    refine bodyPost_ret (v := .tuple #[.agg #[.int .i64 0, .int .i64 0, .int .i64 0], .bool false]) (by simp [results, Try.results91, go_sem, hc1422, hc1423, hc1424]) rfl ?_
    rw [← some_eq H]
    exact ⟨(by first | rfl | (simp [IntKind.wrap_u32]; done)), HS.out.sub (.cons_cons _ (.cons_cons _ (.cons_cons _ (.cons _ .slnil))))⟩
  · have H := if_no c1414 H
    have c1414b0 : decide (a1410 < 0) = false := decide_eq_false c1414
    clear c1414
    by_cases c1425 : a1410 > 1
    · have H := if_yes c1425 H
      have c1425b0 : decide (1 < a1410) = true := decide_eq_true c1425
      clear c1425
      go_wp2_with (first | ((with_reducible refine gate_dst (N := 4) rfl ?_); refine box_on ?hg (N := 4) ?hd (cs := #[.int .i64 0, .int .i64 0, .int .i64 0]) (t := 134) ?hr ?_; (case hd => rfl); (case hg => rfl); (case hr => first | (go_simp; done) | (go_simp; rfl)); intro g1411 hg w1412 hbox hb; replace HS : Aside0 (Sep FF w [b13 g1396 g1398 a1406 a1407 a1408 a1409, b12 g1398 A1401 l1400.length n1403 a1405, r11 A1401 l1400.length n1403 l1400, b1 g1411 0 0 0] w1412) := ⟨HS.out.box hg hbox hb⟩; clear hg hbox hb; have hc1426 : w1412.cell? ⟨g1411, 0, none⟩ = some (.int .i64 0) := blk_cellv (HS.out.at3) 0 rfl; have hz1427 : w1412.frozen? ⟨g1411, 0, none⟩ = false := blk_fz (HS.out.at3) 0; have hc1428 : w1412.cell? ⟨g1411, 1, none⟩ = some (.int .i64 0) := blk_cellv (HS.out.at3) 1 rfl; have hz1429 : w1412.frozen? ⟨g1411, 1, none⟩ = false := blk_fz (HS.out.at3) 1; have hc1430 : w1412.cell? ⟨g1411, 2, none⟩ = some (.int .i64 0) := blk_cellv (HS.out.at3) 2 rfl; have hz1431 : w1412.frozen? ⟨g1411, 2, none⟩ = false := blk_fz (HS.out.at3) 2) | ((with_reducible refine gate_store (t := 134) (p := 4) rfl ?_); refine store_event (w1 := (World.setCell (World.setCell (World.setCell w1412 ⟨g1411, 0, none⟩ (.int .i64 0)) ⟨g1411, 1, none⟩ (.int .i64 0)) ⟨g1411, 2, none⟩ (.int .i64 0))) rfl (t := 134) (p := 4) rfl rfl ?hr ?_; (case hr => first | (go_simp; done) | (go_simp; rfl)); intro w1432 hst; clear hc1426 hz1427 hc1428 hz1429 hc1430 hz1431; replace HS : Aside0 (Sep FF w [b13 g1396 g1398 a1406 a1407 a1408 a1409, b12 g1398 A1401 l1400.length n1403 a1405, r11 A1401 l1400.length n1403 l1400, b1 g1411 0 0 0] w1432) := ⟨by rw [hst]; exact HS.out.setAll (l1 := [b13 g1396 g1398 a1406 a1407 a1408 a1409, b12 g1398 A1401 l1400.length n1403 a1405, r11 A1401 l1400.length n1403 l1400]) (l2 := []) [.int .i64 0, .int .i64 0, .int .i64 0] rfl⟩; clear hst))
      have hc1433 : w1432.cell? ⟨g1411, 0, none⟩ = some (.int .i64 0) := blk_cellv (HS.out.at3) 0 rfl
      have hc1434 : w1432.cell? ⟨g1411, 1, none⟩ = some (.int .i64 0) := blk_cellv (HS.out.at3) 1 rfl
      have hc1435 : w1432.cell? ⟨g1411, 2, none⟩ = some (.int .i64 0) := blk_cellv (HS.out.at3) 2 rfl
      refine bodyPost_ret (v := .tuple #[.agg #[.int .i64 0, .int .i64 0, .int .i64 0], .bool false]) (by simp [results, Try.results91, go_sem, hc1433, hc1434, hc1435]) rfl ?_
      rw [← some_eq H]
      exact ⟨(by first | rfl | (simp [IntKind.wrap_u32]; done)), HS.out.sub (.cons_cons _ (.cons_cons _ (.cons_cons _ (.cons _ .slnil))))⟩
    · have H := if_no c1425 H
      have c1425b0 : decide (1 < a1410) = false := decide_eq_false c1425
      clear c1425
      go_wp2_with (first | ((with_reducible refine gate_dst (N := 4) rfl ?_); refine box_on ?hg (N := 4) ?hd (cs := #[.int .i64 0, .int .i64 0, .int .i64 0]) (t := 134) ?hr ?_; (case hd => rfl); (case hg => rfl); (case hr => first | (go_simp; done) | (go_simp; rfl)); intro g1411 hg w1412 hbox hb; replace HS : Aside0 (Sep FF w [b13 g1396 g1398 a1406 a1407 a1408 a1409, b12 g1398 A1401 l1400.length n1403 a1405, r11 A1401 l1400.length n1403 l1400, b1 g1411 0 0 0] w1412) := ⟨HS.out.box hg hbox hb⟩; clear hg hbox hb; have hc1436 : w1412.cell? ⟨g1411, 0, none⟩ = some (.int .i64 0) := blk_cellv (HS.out.at3) 0 rfl; have hz1437 : w1412.frozen? ⟨g1411, 0, none⟩ = false := blk_fz (HS.out.at3) 0; have hc1438 : w1412.cell? ⟨g1411, 1, none⟩ = some (.int .i64 0) := blk_cellv (HS.out.at3) 1 rfl; have hz1439 : w1412.frozen? ⟨g1411, 1, none⟩ = false := blk_fz (HS.out.at3) 1; have hc1440 : w1412.cell? ⟨g1411, 2, none⟩ = some (.int .i64 0) := blk_cellv (HS.out.at3) 2 rfl; have hz1441 : w1412.frozen? ⟨g1411, 2, none⟩ = false := blk_fz (HS.out.at3) 2) | ((with_reducible refine gate_store (t := 134) (p := 4) rfl ?_); refine store_event (w1 := (World.setCell (World.setCell (World.setCell w1412 ⟨g1411, 0, none⟩ (.int .i64 (wrap64 (3 * a1410)))) ⟨g1411, 1, none⟩ (.int .i64 (wrap64 ((wrap64 (3 * a1410)) + 1)))) ⟨g1411, 2, none⟩ (.int .i64 (wrap64 ((wrap64 (3 * a1410)) + 2))))) rfl (t := 134) (p := 4) rfl rfl ?hr ?_; (case hr => first | (go_simp; done) | (go_simp; rfl)); intro w1442 hst; clear hc1436 hz1437 hc1438 hz1439 hc1440 hz1441; replace HS : Aside0 (Sep FF w [b13 g1396 g1398 a1406 a1407 a1408 a1409, b12 g1398 A1401 l1400.length n1403 a1405, r11 A1401 l1400.length n1403 l1400, b1 g1411 (wrap64 (3 * a1410)) (wrap64 ((wrap64 (3 * a1410)) + 1)) (wrap64 ((wrap64 (3 * a1410)) + 2))] w1442) := ⟨by rw [hst]; exact HS.out.setAll (l1 := [b13 g1396 g1398 a1406 a1407 a1408 a1409, b12 g1398 A1401 l1400.length n1403 a1405, r11 A1401 l1400.length n1403 l1400]) (l2 := []) [.int .i64 (wrap64 (3 * a1410)), .int .i64 (wrap64 ((wrap64 (3 * a1410)) + 1)), .int .i64 (wrap64 ((wrap64 (3 * a1410)) + 2))] rfl⟩; clear hst))
      have hc1443 : w1442.cell? ⟨g1411, 0, none⟩ = some (.int .i64 (wrap64 (3 * a1410))) := blk_cellv (HS.out.at3) 0 rfl
      have hc1444 : w1442.cell? ⟨g1411, 1, none⟩ = some (.int .i64 (wrap64 ((wrap64 (3 * a1410)) + 1))) := blk_cellv (HS.out.at3) 1 rfl
      have hc1445 : w1442.cell? ⟨g1411, 2, none⟩ = some (.int .i64 (wrap64 ((wrap64 (3 * a1410)) + 2))) := blk_cellv (HS.out.at3) 2 rfl
      refine bodyPost_ret (v := .tuple #[.agg #[.int .i64 (wrap64 (3 * a1410)), .int .i64 (wrap64 ((wrap64 (3 * a1410)) + 1)), .int .i64 (wrap64 ((wrap64 (3 * a1410)) + 2))], .bool true]) (by simp [results, Try.results91, go_sem, hc1443, hc1444, hc1445]) rfl ?_
      rw [← some_eq H]
      exact ⟨(by first | rfl | (simp [IntKind.wrap_u32]; done)), HS.out.sub (.cons_cons _ (.cons_cons _ (.cons_cons _ (.cons _ .slnil))))⟩

set_option maxHeartbeats 30000000 in
set_option maxRecDepth 100000 in
theorem ground_Ground_all.calls (l1482 : List Int) (a1487 : Int) (a1488 : Int) (a1489 : Int) (a1490 : Int) (a1491 : Int) (g1478 : Nat) (g1480 : Nat) (A1483 : Option Addr) (m1484 : Nat) (n1485 : Nat) (r : Unit) (w : World)   (HS : Aside0 (Sep (fps [b13 g1478 g1480 a1488 a1489 a1490 a1491, b12 g1480 A1483 m1484 n1485 a1487, r11 A1483 m1484 n1485 l1482]) w [b13 g1478 g1480 a1488 a1489 a1490 a1491, b12 g1480 A1483 m1484 n1485 a1487, r11 A1483 m1484 n1485 l1482] w)) (H : Aside0 (ground_Ground_all.f l1482 a1487 a1488 a1489 a1490 a1491 = some r)) :
    Calls Try.prog 77 #[.pointer (some ⟨g1478, 0, none⟩)] w fun e w' => e = .returned (.pointer (some ⟨g1480, 0, none⟩)) ∧ Sep (fps [b13 g1478 g1480 a1488 a1489 a1490 a1491, b12 g1480 A1483 m1484 n1485 a1487, r11 A1483 m1484 n1485 l1482]) w [b13 g1478 g1480 a1488 a1489 a1490 a1491, b12 g1480 A1483 m1484 n1485 a1487, r11 A1483 m1484 n1485 l1482] w' := by
  generalize (fps [b13 g1478 g1480 a1488 a1489 a1490 a1491, b12 g1480 A1483 m1484 n1485 a1487, r11 A1483 m1484 n1485 l1482]) = FF at HS ⊢
  obtain rfl := (row_len (HS.out.at2)).symm
  unfold ground_Ground_all.f at H
  go_enter Try.func77, Try.ntmps77
  have hc1492 : w.cell? ⟨g1478, 0, none⟩ = some (.pointer (some ⟨g1480, 0, none⟩)) := blk_cellv (HS.out.at0) 0 rfl
  go_wp2_with fail
  clear hc1492
  go_ret
  clear H
  exact ⟨(by first | rfl | (simp [IntKind.wrap_u32]; done)), HS.out⟩

set_option maxHeartbeats 30000000 in
set_option maxRecDepth 100000 in
theorem store_Store_has.calls (l1512 : List Int) (a1517 : Int) (a1518 : Int) (g1510 : Nat) (A1513 : Option Addr) (m1514 : Nat) (n1515 : Nat) (r : Bool) (w : World)   (HS : Aside0 (Sep (fps [b12 g1510 A1513 m1514 n1515 a1517, r11 A1513 m1514 n1515 l1512]) w [b12 g1510 A1513 m1514 n1515 a1517, r11 A1513 m1514 n1515 l1512] w)) (H : Aside0 (store_Store_has.f l1512 a1517 a1518 = some r)) :
    Calls Try.prog 69 #[.pointer (some ⟨g1510, 0, none⟩), .int .i64 a1518] w fun e w' => e = .returned (.bool r) ∧ Sep (fps [b12 g1510 A1513 m1514 n1515 a1517, r11 A1513 m1514 n1515 l1512]) w [b12 g1510 A1513 m1514 n1515 a1517, r11 A1513 m1514 n1515 l1512] w' := by
  generalize (fps [b12 g1510 A1513 m1514 n1515 a1517, r11 A1513 m1514 n1515 l1512]) = FF at HS ⊢
  obtain rfl := (row_len (HS.out.at1)).symm
  unfold store_Store_has.f at H
  go_enter Try.func69, Try.ntmps69
  by_cases c1519 : a1518 ≥ 0
  · have H := if_yes c1519 H
    have c1519b0 : decide (0 ≤ a1518) = true := decide_eq_true c1519
    clear c1519
    have hc1520 : w.cell? ⟨g1510, 0, none⟩ = some (.slice A1513 l1512.length n1515) := blk_cellv (HS.out.at0) 0 rfl
    go_wp2_with fail
    clear hc1520
    go_ret
    rw [← some_eq H]
    exact ⟨(by first | rfl | (simp [IntKind.wrap_u32]; done)), HS.out⟩
  · have H := if_no c1519 H
    have c1519b0 : decide (0 ≤ a1518) = false := decide_eq_false c1519
    clear c1519
    go_wp2_with fail
    go_ret
    rw [← some_eq H]
    exact ⟨(by first | rfl | (simp [IntKind.wrap_u32]; done)), HS.out⟩

set_option maxHeartbeats 30000000 in
set_option maxRecDepth 100000 in
theorem atomic_Uint64_Add.calls (l1528 : List Int) (a1533 : Int) (a1534 : Int) (g1526 : Nat) (A1529 : Option Addr) (m1530 : Nat) (n1531 : Nat) (r : Int × Int) (w : World)   (HS : Aside0 (Sep (fps [b12 g1526 A1529 m1530 n1531 a1533, r11 A1529 m1530 n1531 l1528]) w [b12 g1526 A1529 m1530 n1531 a1533, r11 A1529 m1530 n1531 l1528] w)) (H : Aside0 (atomic_Uint64_Add.f l1528 a1533 a1534 = some r)) :
    Calls Try.prog 71 #[.pointer (some ⟨g1526, 1, none⟩), .int .u64 a1534] w fun e w' => e = .returned (.int .u64 r.1) ∧ Sep (fps [b12 g1526 A1529 m1530 n1531 a1533, r11 A1529 m1530 n1531 l1528]) w [b12 g1526 A1529 m1530 n1531 r.2, r11 A1529 m1530 n1531 l1528] w' := by
  generalize (fps [b12 g1526 A1529 m1530 n1531 a1533, r11 A1529 m1530 n1531 l1528]) = FF at HS ⊢
  obtain rfl := (row_len (HS.out.at1)).symm
  unfold atomic_Uint64_Add.f at H
  go_enter Try.func71, Try.ntmps71
  obtain ⟨y1544, HA1545, H⟩ := bind_some H
  have hc1541 : w.cell? ⟨g1526, 1, none⟩ = some (.int .u64 a1533) := blk_cellv (HS.out.at0) 1 rfl
  have hz1543 : w.frozen? ⟨g1526, 1, none⟩ = false := blk_fz (HS.out.at0) 1
  have hn1542 : (callFunc 104 #[.pointer (some ⟨g1526, 1, none⟩), .int .u64 a1534]).run Try.prog w = .ok (.value (.int .u64 y1544)) ((World.setCell w ⟨g1526, 1, none⟩ (.int .u64 y1544))) := (some_eq HA1545) ▸ run_call_add Try.func104 (by kernel_rfl) (by kernel_rfl) (by kernel_rfl) .u64 (by kernel_rfl) hc1541 hz1543 (by rfl)
  go_wp2_with (first | ((with_reducible refine gate_dst (N := 9) rfl ?_); refine run_on2 (by rfl) (w1 := (World.setCell w ⟨g1526, 1, none⟩ (.int .u64 y1544))) (v := .int .u64 y1544) ?hr ?_; (case hr => first | (go_simp; done) | (go_simp; rfl)); intro w1546 hst; clear hc1541 hz1543; have hq0 : Sep FF w [b12 g1526 A1529 l1528.length n1531 y1544, r11 A1529 l1528.length n1531 l1528] (World.setCell w ⟨g1526, 1, none⟩ (.int .u64 y1544)) := (HS.out).set1 (l1 := []) (l2 := [r11 A1529 l1528.length n1531 l1528]) 1 (.int .u64 y1544); replace HS : Aside0 (Sep FF w [b12 g1526 A1529 l1528.length n1531 y1544, r11 A1529 l1528.length n1531 l1528] w1546) := ⟨by rw [hst]; exact hq0⟩; clear hst hn1542 hq0))
  go_ret
  rw [← some_eq H]
  exact ⟨(by first | rfl | (simp [IntKind.wrap_u32]; done)), HS.out⟩

set_option maxHeartbeats 30000000 in
set_option maxRecDepth 100000 in
theorem store_Store_Get.calls (l1502 : List Int) (a1507 : Int) (a1508 : Int) (g1500 : Nat) (A1503 : Option Addr) (m1504 : Nat) (n1505 : Nat) (r : Int × Int) (w : World)   (HS : Aside0 (Sep (fps [b12 g1500 A1503 m1504 n1505 a1507, r11 A1503 m1504 n1505 l1502]) w [b12 g1500 A1503 m1504 n1505 a1507, r11 A1503 m1504 n1505 l1502] w)) (H : Aside0 (store_Store_Get.f l1502 a1507 a1508 = some r)) :
    Calls Try.prog 25 #[.pointer (some ⟨g1500, 0, none⟩), .int .i64 a1508] w fun e w' => e = .returned (.int .u32 r.1) ∧ Sep (fps [b12 g1500 A1503 m1504 n1505 a1507, r11 A1503 m1504 n1505 l1502]) w [b12 g1500 A1503 m1504 n1505 r.2, r11 A1503 m1504 n1505 l1502] w' := by
  generalize (fps [b12 g1500 A1503 m1504 n1505 a1507, r11 A1503 m1504 n1505 l1502]) = FF at HS ⊢
  obtain rfl := (row_len (HS.out.at1)).symm
  unfold store_Store_Get.f at H
  go_enter Try.func25, Try.ntmps25
  go_wp2_with fail
  obtain ⟨t1556, HA1557, H⟩ := bind_some H
  refine (store_Store_has.calls l1502 a1507 a1508 g1500 A1503 l1502.length n1505 t1556 _ ⟨HS.out.begin⟩ HA1557).mono ?_
  rintro e_ w1558 ⟨rfl, hS⟩
  replace HS : Aside0 (Sep FF w [b12 g1500 A1503 l1502.length n1505 a1507, r11 A1503 l1502.length n1505 l1502] w1558) := ⟨HS.out.call hS⟩
  clear hS
  by_cases c1559 : t1556 = true
  · have H := if_yes c1559 H
    have c1559b0 : t1556 = true := c1559
    have c1559b1 : (!t1556) = false := by rw [c1559b0]; rfl
    try rw [c1559b1]
    clear c1559
    go_wp2_with fail
    obtain ⟨t1560, HA1561, H⟩ := bind_some H
    refine (atomic_Uint64_Add.calls l1502 a1507 1 g1500 A1503 l1502.length n1505 t1560 _ ⟨HS.out.begin⟩ HA1561).mono ?_
    rintro e_ w1562 ⟨rfl, hS⟩
    replace HS : Aside0 (Sep FF w [b12 g1500 A1503 l1502.length n1505 t1560.2, r11 A1503 l1502.length n1505 l1502] w1562) := ⟨HS.out.call hS⟩
    clear hS
    by_cases c1564 : 0 ≤ a1508
    · have H := if_yes c1564 H
      have c1564b0 : decide (0 ≤ a1508) = true := decide_eq_true c1564
      have c1564p : (0 ≤ a1508) = True := eq_true c1564
      clear c1564
      by_cases c1565 : a1508 < (l1502.length : Int)
      · have H := if_yes c1565 H
        have c1565b0 : decide (a1508 < (l1502.length : Int)) = true := decide_eq_true c1565
        have c1565p : (a1508 < (l1502.length : Int)) = True := eq_true c1565
        clear c1565
        have hc1563 : w1562.cell? ⟨g1500, 0, none⟩ = some (.slice A1503 l1502.length n1505) := blk_cellv (HS.out.at0) 0 rfl
        obtain ⟨g1566, ea⟩ := row_at (HS.out.at1) (by have := (of_decide_eq_true c1564b0); have := (of_decide_eq_true c1565b0); omega); cases ea
        have hx1567 := C_at_int (row_Ci (HS.out.at1)) a1508 (of_decide_eq_true c1564b0) (of_decide_eq_true c1565b0)
        have hx1568 : w1562.cell? ⟨g1566, (a1508).toNat, none⟩ = some (.int .u32 (rd l1502 a1508)) := (row_get 0 (HS.out.at1) a1508 (of_decide_eq_true c1564b0) (of_decide_eq_true c1565b0)).1
        go_wp2_with fail
        clear hc1563 hx1567 hx1568
        go_ret
        rw [← some_eq H]
        exact ⟨(by first | rfl | (simp [IntKind.wrap_u32]; done)), HS.out⟩
      · have H := if_no c1565 H
        have c1565b0 : decide (a1508 < (l1502.length : Int)) = false := decide_eq_false c1565
        clear c1565
        exact (none_no H).elim
    · have H := if_no c1564 H
      have c1564b0 : decide (0 ≤ a1508) = false := decide_eq_false c1564
      clear c1564
      exact (none_no H).elim
  · have H := if_no c1559 H
    have c1559b0 : t1556 = false := by simpa using c1559
    have c1559b1 : (!t1556) = true := by rw [c1559b0]; rfl
    try rw [c1559b1]
    clear c1559
    go_wp2_with fail
    go_ret
    rw [← some_eq H]
    exact ⟨(by first | rfl | (simp [IntKind.wrap_u32]; done)), HS.out⟩

set_option maxHeartbeats 30000000 in
set_option maxRecDepth 100000 in
theorem ground_Ground_Reg.calls (l1466 : List Int) (a1471 : Int) (a1472 : Int) (a1473 : Int) (a1474 : Int) (a1475 : Int) (a1476 : Int) (g1462 : Nat) (g1464 : Nat) (A1467 : Option Addr) (m1468 : Nat) (n1469 : Nat) (r : Int × Int) (w : World)   (HS : Aside0 (Sep (fps [b13 g1462 g1464 a1472 a1473 a1474 a1475, b12 g1464 A1467 m1468 n1469 a1471, r11 A1467 m1468 n1469 l1466]) w [b13 g1462 g1464 a1472 a1473 a1474 a1475, b12 g1464 A1467 m1468 n1469 a1471, r11 A1467 m1468 n1469 l1466] w)) (H : Aside0 (ground_Ground_Reg.f l1466 a1471 a1472 a1473 a1474 a1475 a1476 = some r)) :
    Calls Try.prog 36 #[.pointer (some ⟨g1462, 0, none⟩), .int .i64 a1476] w fun e w' => e = .returned (.int .i64 r.1) ∧ Sep (fps [b13 g1462 g1464 a1472 a1473 a1474 a1475, b12 g1464 A1467 m1468 n1469 a1471, r11 A1467 m1468 n1469 l1466]) w [b13 g1462 g1464 a1472 a1473 a1474 a1475, b12 g1464 A1467 m1468 n1469 r.2, r11 A1467 m1468 n1469 l1466] w' := by
  generalize (fps [b13 g1462 g1464 a1472 a1473 a1474 a1475, b12 g1464 A1467 m1468 n1469 a1471, r11 A1467 m1468 n1469 l1466]) = FF at HS ⊢
  obtain rfl := (row_len (HS.out.at2)).symm
  unfold ground_Ground_Reg.f at H
  go_enter Try.func36, Try.ntmps36
  go_wp2_with fail
  obtain ⟨t1572, HA1573, H⟩ := bind_some H
  refine (ground_Ground_all.calls l1466 a1471 a1472 a1473 a1474 a1475 g1462 g1464 A1467 l1466.length n1469 t1572 _ ⟨HS.out.begin⟩ HA1573).mono ?_
  rintro e_ w1574 ⟨rfl, hS⟩
  replace HS : Aside0 (Sep FF w [b13 g1462 g1464 a1472 a1473 a1474 a1475, b12 g1464 A1467 l1466.length n1469 a1471, r11 A1467 l1466.length n1469 l1466] w1574) := ⟨HS.out.call hS⟩
  clear hS
  go_wp2_with fail
  obtain ⟨t1575, HA1576, H⟩ := bind_some H
  refine (ground_reg.calls a1476 t1575 _ ⟨Sep.start _⟩ HA1576).mono ?_
  rintro e_ w1577 ⟨rfl, hS⟩
  replace HS : Aside0 (Sep FF w [b13 g1462 g1464 a1472 a1473 a1474 a1475, b12 g1464 A1467 l1466.length n1469 a1471, r11 A1467 l1466.length n1469 l1466] w1577) := ⟨HS.out.call hS⟩
  clear hS
  go_wp2_with fail
  replace HS : Aside0 (Sep FF w [r11 A1467 l1466.length n1469 l1466, b13 g1462 g1464 a1472 a1473 a1474 a1475, b12 g1464 A1467 l1466.length n1469 a1471] w1577) := ⟨HS.out.front 2 (by simp)⟩
  replace HS : Aside0 (Sep FF w [b12 g1464 A1467 l1466.length n1469 a1471, r11 A1467 l1466.length n1469 l1466, b13 g1462 g1464 a1472 a1473 a1474 a1475] w1577) := ⟨HS.out.front 2 (by simp)⟩
  obtain ⟨t1578, HA1579, H⟩ := bind_some H
  refine (store_Store_Get.calls l1466 a1471 t1575 g1464 A1467 l1466.length n1469 t1578 _ ⟨HS.out.begin⟩ HA1579).mono ?_
  rintro e_ w1580 ⟨rfl, hS⟩
  replace HS : Aside0 (Sep FF w [b12 g1464 A1467 l1466.length n1469 t1578.2, r11 A1467 l1466.length n1469 l1466, b13 g1462 g1464 a1472 a1473 a1474 a1475] w1580) := ⟨HS.out.call hS⟩
  clear hS
  go_wp2_with fail
  go_ret
  rw [← some_eq H]
  exact ⟨(by first | rfl | (simp [IntKind.wrap_u32]; done)), ((((HS.out).front 1 (by simp)).front 1 (by simp)).front 2 (by simp)).keep (l := [b13 g1462 g1464 a1472 a1473 a1474 a1475, b12 g1464 A1467 l1466.length n1469 t1578.2, r11 A1467 l1466.length n1469 l1466]) (rest := [])⟩

set_option maxHeartbeats 30000000 in
set_option maxRecDepth 100000 in
theorem chain_Len.calls (l1384 : List Int) (a1389 : Int) (a1390 : Int) (a1391 : Int) (a1392 : Int) (a1393 : Int) (a1394 : Int) (g1380 : Nat) (g1382 : Nat) (A1385 : Option Addr) (m1386 : Nat) (n1387 : Nat) (r : Int × Int) (w : World)   (HS : Aside0 (Sep (fps [b13 g1380 g1382 a1390 a1391 a1392 a1393, b12 g1382 A1385 m1386 n1387 a1389, r11 A1385 m1386 n1387 l1384]) w [b13 g1380 g1382 a1390 a1391 a1392 a1393, b12 g1382 A1385 m1386 n1387 a1389, r11 A1385 m1386 n1387 l1384] w)) (H : Aside0 (chain_Len.f l1384 a1389 a1390 a1391 a1392 a1393 a1394 = some r)) :
    Calls Try.prog 55 #[.pointer (some ⟨g1380, 0, none⟩), .int .i64 a1394] w fun e w' => e = .returned (.int .i64 r.1) ∧ Sep (fps [b13 g1380 g1382 a1390 a1391 a1392 a1393, b12 g1382 A1385 m1386 n1387 a1389, r11 A1385 m1386 n1387 l1384]) w [b13 g1380 g1382 a1390 a1391 a1392 a1393, b12 g1382 A1385 m1386 n1387 r.2, r11 A1385 m1386 n1387 l1384] w' := by
  generalize (fps [b13 g1380 g1382 a1390 a1391 a1392 a1393, b12 g1382 A1385 m1386 n1387 a1389, r11 A1385 m1386 n1387 l1384]) = FF at HS ⊢
  obtain rfl := (row_len (HS.out.at2)).symm
  unfold chain_Len.f at H
  go_enter Try.func55, Try.ntmps55
  go_wp2_with fail
  obtain ⟨t1584, HA1585, H⟩ := bind_some H
  refine (chain_of.calls l1384 a1389 a1390 a1391 a1392 a1393 a1394 g1380 g1382 A1385 l1384.length n1387 t1584 _ ⟨HS.out.begin⟩ HA1585).mono ?_
  rintro e_ w1586 ⟨rfl, hS⟩
  replace HS : Aside0 (Sep FF w [b13 g1380 g1382 a1390 a1391 a1392 a1393, b12 g1382 A1385 l1384.length n1387 a1389, r11 A1385 l1384.length n1387 l1384] w1586) := ⟨HS.out.call hS⟩
  clear hS
  by_cases c1597 : t1584.2.2.2 = true
  · have H := if_yes c1597 H
    have c1597b0 : t1584.2.2.2 = true := c1597
    have c1597b1 : (!t1584.2.2.2) = false := by rw [c1597b0]; rfl
    try rw [c1597b1]
    clear c1597
    go_wp2_with (first | ((with_reducible refine gate_dst (N := 5) rfl ?_); refine box_on ?hg (N := 5) ?hd (cs := #[.int .i64 0, .int .i64 0, .int .i64 0]) (t := 134) ?hr ?_; (case hd => rfl); (case hg => rfl); (case hr => first | (go_simp; done) | (go_simp; rfl)); intro g1587 hg w1588 hbox hb; replace HS : Aside0 (Sep FF w [b13 g1380 g1382 a1390 a1391 a1392 a1393, b12 g1382 A1385 l1384.length n1387 a1389, r11 A1385 l1384.length n1387 l1384, b1 g1587 0 0 0] w1588) := ⟨HS.out.box hg hbox hb⟩; clear hg hbox hb; have hc1590 : w1588.cell? ⟨g1587, 0, none⟩ = some (.int .i64 0) := blk_cellv (HS.out.at3) 0 rfl; have hz1591 : w1588.frozen? ⟨g1587, 0, none⟩ = false := blk_fz (HS.out.at3) 0; have hc1592 : w1588.cell? ⟨g1587, 1, none⟩ = some (.int .i64 0) := blk_cellv (HS.out.at3) 1 rfl; have hz1593 : w1588.frozen? ⟨g1587, 1, none⟩ = false := blk_fz (HS.out.at3) 1; have hc1594 : w1588.cell? ⟨g1587, 2, none⟩ = some (.int .i64 0) := blk_cellv (HS.out.at3) 2 rfl; have hz1595 : w1588.frozen? ⟨g1587, 2, none⟩ = false := blk_fz (HS.out.at3) 2) | ((with_reducible refine gate_store (t := 134) (p := 5) rfl ?_); refine store_event (w1 := (World.setCell (World.setCell (World.setCell w1588 ⟨g1587, 0, none⟩ (.int .i64 t1584.1)) ⟨g1587, 1, none⟩ (.int .i64 t1584.2.1)) ⟨g1587, 2, none⟩ (.int .i64 t1584.2.2.1))) rfl (t := 134) (p := 5) rfl rfl ?hr ?_; (case hr => first | (go_simp; done) | (go_simp; rfl)); intro w1596 hst; clear hc1590 hz1591 hc1592 hz1593 hc1594 hz1595; replace HS : Aside0 (Sep FF w [b13 g1380 g1382 a1390 a1391 a1392 a1393, b12 g1382 A1385 l1384.length n1387 a1389, r11 A1385 l1384.length n1387 l1384, b1 g1587 t1584.1 t1584.2.1 t1584.2.2.1] w1596) := ⟨by rw [hst]; exact HS.out.setAll (l1 := [b13 g1380 g1382 a1390 a1391 a1392 a1393, b12 g1382 A1385 l1384.length n1387 a1389, r11 A1385 l1384.length n1387 l1384]) (l2 := []) [.int .i64 t1584.1, .int .i64 t1584.2.1, .int .i64 t1584.2.2.1] rfl⟩; clear hst; have hc1598 : w1596.cell? ⟨g1587, 2, none⟩ = some (.int .i64 t1584.2.2.1) := blk_cellv (HS.out.at3) 2 rfl))
    clear hc1598
    obtain ⟨t1599, HA1600, H⟩ := bind_some H
    refine (ground_Ground_Reg.calls l1384 a1389 a1390 a1391 a1392 a1393 t1584.2.2.1 g1380 g1382 A1385 l1384.length n1387 t1599 _ ⟨HS.out.begin⟩ HA1600).mono ?_
    rintro e_ w1601 ⟨rfl, hS⟩
    replace HS : Aside0 (Sep FF w [b13 g1380 g1382 a1390 a1391 a1392 a1393, b12 g1382 A1385 l1384.length n1387 t1599.2, r11 A1385 l1384.length n1387 l1384, b1 g1587 t1584.1 t1584.2.1 t1584.2.2.1] w1601) := ⟨HS.out.call hS⟩
    clear hS
    replace HS : Aside0 (Sep FF w [b13 g1380 g1382 a1390 a1391 a1392 a1393, b12 g1382 A1385 l1384.length n1387 t1599.2, r11 A1385 l1384.length n1387 l1384] w1601) := ⟨HS.out.sub (.cons_cons _ (.cons_cons _ (.cons_cons _ (.cons _ .slnil))))⟩
    go_wp2_with fail
    go_ret
    rw [← some_eq H]
    exact ⟨(by first | rfl | (simp [IntKind.wrap_u32]; done)), HS.out⟩
  · have H := if_no c1597 H
    have c1597b0 : t1584.2.2.2 = false := by simpa using c1597
    have c1597b1 : (!t1584.2.2.2) = true := by rw [c1597b0]; rfl
    try rw [c1597b1]
    clear c1597
    go_wp2_with (first | ((with_reducible refine gate_dst (N := 5) rfl ?_); refine box_on ?hg (N := 5) ?hd (cs := #[.int .i64 0, .int .i64 0, .int .i64 0]) (t := 134) ?hr ?_; (case hd => rfl); (case hg => rfl); (case hr => first | (go_simp; done) | (go_simp; rfl)); intro g1587 hg w1588 hbox hb; replace HS : Aside0 (Sep FF w [b13 g1380 g1382 a1390 a1391 a1392 a1393, b12 g1382 A1385 l1384.length n1387 a1389, r11 A1385 l1384.length n1387 l1384, b1 g1587 0 0 0] w1588) := ⟨HS.out.box hg hbox hb⟩; clear hg hbox hb; have hc1590 : w1588.cell? ⟨g1587, 0, none⟩ = some (.int .i64 0) := blk_cellv (HS.out.at3) 0 rfl; have hz1591 : w1588.frozen? ⟨g1587, 0, none⟩ = false := blk_fz (HS.out.at3) 0; have hc1592 : w1588.cell? ⟨g1587, 1, none⟩ = some (.int .i64 0) := blk_cellv (HS.out.at3) 1 rfl; have hz1593 : w1588.frozen? ⟨g1587, 1, none⟩ = false := blk_fz (HS.out.at3) 1; have hc1594 : w1588.cell? ⟨g1587, 2, none⟩ = some (.int .i64 0) := blk_cellv (HS.out.at3) 2 rfl; have hz1595 : w1588.frozen? ⟨g1587, 2, none⟩ = false := blk_fz (HS.out.at3) 2) | ((with_reducible refine gate_store (t := 134) (p := 5) rfl ?_); refine store_event (w1 := (World.setCell (World.setCell (World.setCell w1588 ⟨g1587, 0, none⟩ (.int .i64 t1584.1)) ⟨g1587, 1, none⟩ (.int .i64 t1584.2.1)) ⟨g1587, 2, none⟩ (.int .i64 t1584.2.2.1))) rfl (t := 134) (p := 5) rfl rfl ?hr ?_; (case hr => first | (go_simp; done) | (go_simp; rfl)); intro w1596 hst; clear hc1590 hz1591 hc1592 hz1593 hc1594 hz1595; replace HS : Aside0 (Sep FF w [b13 g1380 g1382 a1390 a1391 a1392 a1393, b12 g1382 A1385 l1384.length n1387 a1389, r11 A1385 l1384.length n1387 l1384, b1 g1587 t1584.1 t1584.2.1 t1584.2.2.1] w1596) := ⟨by rw [hst]; exact HS.out.setAll (l1 := [b13 g1380 g1382 a1390 a1391 a1392 a1393, b12 g1382 A1385 l1384.length n1387 a1389, r11 A1385 l1384.length n1387 l1384]) (l2 := []) [.int .i64 t1584.1, .int .i64 t1584.2.1, .int .i64 t1584.2.2.1] rfl⟩; clear hst; replace HS : Aside0 (Sep FF w [b13 g1380 g1382 a1390 a1391 a1392 a1393, b12 g1382 A1385 l1384.length n1387 a1389, r11 A1385 l1384.length n1387 l1384] w1596) := ⟨HS.out.sub (.cons_cons _ (.cons_cons _ (.cons_cons _ (.cons _ .slnil))))⟩))
    go_ret
    rw [← some_eq H]
    exact ⟨(by first | rfl | (simp [IntKind.wrap_u32]; done)), HS.out⟩

set_option maxHeartbeats 30000000 in
set_option maxRecDepth 100000 in
theorem ground_Ground_Conf.calls (l1615 : List Int) (a1620 : Int) (a1621 : Int) (a1622 : Int) (a1623 : Int) (a1624 : Int) (g1611 : Nat) (g1613 : Nat) (A1616 : Option Addr) (m1617 : Nat) (n1618 : Nat) (r : Int × Int × Int × Int) (w : World)   (HS : Aside0 (Sep (fps [b13 g1611 g1613 a1621 a1622 a1623 a1624, b12 g1613 A1616 m1617 n1618 a1620, r11 A1616 m1617 n1618 l1615]) w [b13 g1611 g1613 a1621 a1622 a1623 a1624, b12 g1613 A1616 m1617 n1618 a1620, r11 A1616 m1617 n1618 l1615] w)) (H : Aside0 (ground_Ground_Conf.f l1615 a1620 a1621 a1622 a1623 a1624 = some r)) :
    Calls Try.prog 39 #[.pointer (some ⟨g1611, 0, none⟩)] w fun e w' => e = .returned (.agg #[.int .i64 r.1, .int .i64 r.2.1, .int .i64 r.2.2.1, .int .i64 r.2.2.2]) ∧ Sep (fps [b13 g1611 g1613 a1621 a1622 a1623 a1624, b12 g1613 A1616 m1617 n1618 a1620, r11 A1616 m1617 n1618 l1615]) w [b13 g1611 g1613 a1621 a1622 a1623 a1624, b12 g1613 A1616 m1617 n1618 a1620, r11 A1616 m1617 n1618 l1615] w' := by
  generalize (fps [b13 g1611 g1613 a1621 a1622 a1623 a1624, b12 g1613 A1616 m1617 n1618 a1620, r11 A1616 m1617 n1618 l1615]) = FF at HS ⊢
  obtain rfl := (row_len (HS.out.at2)).symm
  unfold ground_Ground_Conf.f at H
  go_enter Try.func39, Try.ntmps39
  go_wp2_with (first | ((with_reducible refine gate_dst (N := 2) rfl ?_); refine box_on ?hg (N := 2) ?hd (cs := #[.int .i64 0, .int .i64 0, .int .i64 0, .int .i64 0]) (t := 49) ?hr ?_; (case hd => rfl); (case hg => rfl); (case hr => first | (go_simp; done) | (go_simp; rfl)); intro g1625 hg w1626 hbox hb; replace HS : Aside0 (Sep FF w [b13 g1611 g1613 a1621 a1622 a1623 a1624, b12 g1613 A1616 l1615.length n1618 a1620, r11 A1616 l1615.length n1618 l1615, b2 g1625 0 0 0 0] w1626) := ⟨HS.out.box hg hbox hb⟩; clear hg hbox hb; have hc1628 : w1626.cell? ⟨g1611, 1, none⟩ = some (.int .i64 a1621) := blk_cellv (HS.out.at0) 1 rfl; have hc1629 : w1626.cell? ⟨g1611, 2, none⟩ = some (.int .i64 a1622) := blk_cellv (HS.out.at0) 2 rfl; have hc1630 : w1626.cell? ⟨g1611, 3, none⟩ = some (.int .i64 a1623) := blk_cellv (HS.out.at0) 3 rfl; have hc1631 : w1626.cell? ⟨g1611, 4, none⟩ = some (.int .i64 a1624) := blk_cellv (HS.out.at0) 4 rfl; have hc1632 : w1626.cell? ⟨g1625, 0, none⟩ = some (.int .i64 0) := blk_cellv (HS.out.at3) 0 rfl; have hz1633 : w1626.frozen? ⟨g1625, 0, none⟩ = false := blk_fz (HS.out.at3) 0; have hc1634 : w1626.cell? ⟨g1625, 1, none⟩ = some (.int .i64 0) := blk_cellv (HS.out.at3) 1 rfl; have hz1635 : w1626.frozen? ⟨g1625, 1, none⟩ = false := blk_fz (HS.out.at3) 1; have hc1636 : w1626.cell? ⟨g1625, 2, none⟩ = some (.int .i64 0) := blk_cellv (HS.out.at3) 2 rfl; have hz1637 : w1626.frozen? ⟨g1625, 2, none⟩ = false := blk_fz (HS.out.at3) 2; have hc1638 : w1626.cell? ⟨g1625, 3, none⟩ = some (.int .i64 0) := blk_cellv (HS.out.at3) 3 rfl; have hz1639 : w1626.frozen? ⟨g1625, 3, none⟩ = false := blk_fz (HS.out.at3) 3) | ((with_reducible refine gate_store (t := 49) (p := 2) rfl ?_); refine store_event (w1 := (World.setCell (World.setCell (World.setCell (World.setCell w1626 ⟨g1625, 0, none⟩ (.int .i64 a1621)) ⟨g1625, 1, none⟩ (.int .i64 a1622)) ⟨g1625, 2, none⟩ (.int .i64 a1623)) ⟨g1625, 3, none⟩ (.int .i64 a1624))) rfl (t := 49) (p := 2) rfl rfl ?hr ?_; (case hr => first | (go_simp; done) | (go_simp; rfl)); intro w1640 hst; clear hc1628 hc1629 hc1630 hc1631 hc1632 hz1633 hc1634 hz1635 hc1636 hz1637 hc1638 hz1639; replace HS : Aside0 (Sep FF w [b13 g1611 g1613 a1621 a1622 a1623 a1624, b12 g1613 A1616 l1615.length n1618 a1620, r11 A1616 l1615.length n1618 l1615, b2 g1625 a1621 a1622 a1623 a1624] w1640) := ⟨by rw [hst]; exact HS.out.setAll (l1 := [b13 g1611 g1613 a1621 a1622 a1623 a1624, b12 g1613 A1616 l1615.length n1618 a1620, r11 A1616 l1615.length n1618 l1615]) (l2 := []) [.int .i64 a1621, .int .i64 a1622, .int .i64 a1623, .int .i64 a1624] rfl⟩; clear hst))
  have hc1641 : w1640.cell? ⟨g1625, 0, none⟩ = some (.int .i64 a1621) := blk_cellv (HS.out.at3) 0 rfl
  have hc1642 : w1640.cell? ⟨g1625, 1, none⟩ = some (.int .i64 a1622) := blk_cellv (HS.out.at3) 1 rfl
  have hc1643 : w1640.cell? ⟨g1625, 2, none⟩ = some (.int .i64 a1623) := blk_cellv (HS.out.at3) 2 rfl
  have hc1644 : w1640.cell? ⟨g1625, 3, none⟩ = some (.int .i64 a1624) := blk_cellv (HS.out.at3) 3 rfl
  refine bodyPost_ret (v := .agg #[.int .i64 a1621, .int .i64 a1622, .int .i64 a1623, .int .i64 a1624]) (by simp [results, Try.results39, go_sem, hc1641, hc1642, hc1643, hc1644]) rfl ?_
  rw [← some_eq H]
  exact ⟨(by first | rfl | (simp [IntKind.wrap_u32]; done)), HS.out.sub (.cons_cons _ (.cons_cons _ (.cons_cons _ (.cons _ .slnil))))⟩

set_option maxHeartbeats 30000000 in
set_option maxRecDepth 100000 in
theorem ground_Ground_word.calls (l1786 : List Int) (a1791 : Int) (a1792 : Int) (a1793 : Int) (a1794 : Int) (a1795 : Int) (a1796 : Int) (a1797 : Int) (g1782 : Nat) (g1784 : Nat) (A1787 : Option Addr) (m1788 : Nat) (n1789 : Nat) (r : Int) (w : World)   (HS : Aside0 (Sep (fps [b13 g1782 g1784 a1792 a1793 a1794 a1795, b12 g1784 A1787 m1788 n1789 a1791, r11 A1787 m1788 n1789 l1786]) w [b13 g1782 g1784 a1792 a1793 a1794 a1795, b12 g1784 A1787 m1788 n1789 a1791, r11 A1787 m1788 n1789 l1786] w)) (H : Aside0 (ground_Ground_word.f l1786 a1791 a1792 a1793 a1794 a1795 a1796 a1797 = some r)) :
    Calls Try.prog 87 #[.pointer (some ⟨g1782, 0, none⟩), .int .i64 a1796, .int .i64 a1797] w fun e w' => e = .returned (.int .i64 r) ∧ Sep (fps [b13 g1782 g1784 a1792 a1793 a1794 a1795, b12 g1784 A1787 m1788 n1789 a1791, r11 A1787 m1788 n1789 l1786]) w [b13 g1782 g1784 a1792 a1793 a1794 a1795, b12 g1784 A1787 m1788 n1789 a1791, r11 A1787 m1788 n1789 l1786] w' := by
  generalize (fps [b13 g1782 g1784 a1792 a1793 a1794 a1795, b12 g1784 A1787 m1788 n1789 a1791, r11 A1787 m1788 n1789 l1786]) = FF at HS ⊢
  obtain rfl := (row_len (HS.out.at2)).symm
  unfold ground_Ground_word.f at H
  go_enter Try.func87, Try.ntmps87
  go_wp2_with fail
  obtain ⟨t1798, HA1799, H⟩ := bind_some H
  refine (ground_Ground_Conf.calls l1786 a1791 a1792 a1793 a1794 a1795 g1782 g1784 A1787 l1786.length n1789 t1798 _ ⟨HS.out.begin⟩ HA1799).mono ?_
  rintro e_ w1800 ⟨rfl, hS⟩
  replace HS : Aside0 (Sep FF w [b13 g1782 g1784 a1792 a1793 a1794 a1795, b12 g1784 A1787 l1786.length n1789 a1791, r11 A1787 l1786.length n1789 l1786] w1800) := ⟨HS.out.call hS⟩
  clear hS
  go_wp2_with (first | ((with_reducible refine gate_dst (N := 7) rfl ?_); refine box_on ?hg (N := 7) ?hd (cs := #[.int .i64 0, .int .i64 0, .int .i64 0, .int .i64 0]) (t := 49) ?hr ?_; (case hd => rfl); (case hg => rfl); (case hr => first | (go_simp; done) | (go_simp; rfl)); intro g1801 hg w1802 hbox hb; replace HS : Aside0 (Sep FF w [b13 g1782 g1784 a1792 a1793 a1794 a1795, b12 g1784 A1787 l1786.length n1789 a1791, r11 A1787 l1786.length n1789 l1786, b2 g1801 0 0 0 0] w1802) := ⟨HS.out.box hg hbox hb⟩; clear hg hbox hb; have hc1804 : w1802.cell? ⟨g1801, 0, none⟩ = some (.int .i64 0) := blk_cellv (HS.out.at3) 0 rfl; have hz1805 : w1802.frozen? ⟨g1801, 0, none⟩ = false := blk_fz (HS.out.at3) 0; have hc1806 : w1802.cell? ⟨g1801, 1, none⟩ = some (.int .i64 0) := blk_cellv (HS.out.at3) 1 rfl; have hz1807 : w1802.frozen? ⟨g1801, 1, none⟩ = false := blk_fz (HS.out.at3) 1; have hc1808 : w1802.cell? ⟨g1801, 2, none⟩ = some (.int .i64 0) := blk_cellv (HS.out.at3) 2 rfl; have hz1809 : w1802.frozen? ⟨g1801, 2, none⟩ = false := blk_fz (HS.out.at3) 2; have hc1810 : w1802.cell? ⟨g1801, 3, none⟩ = some (.int .i64 0) := blk_cellv (HS.out.at3) 3 rfl; have hz1811 : w1802.frozen? ⟨g1801, 3, none⟩ = false := blk_fz (HS.out.at3) 3) | ((with_reducible refine gate_store (t := 49) (p := 7) rfl ?_); refine store_event (w1 := (World.setCell (World.setCell (World.setCell (World.setCell w1802 ⟨g1801, 0, none⟩ (.int .i64 t1798.1)) ⟨g1801, 1, none⟩ (.int .i64 t1798.2.1)) ⟨g1801, 2, none⟩ (.int .i64 t1798.2.2.1)) ⟨g1801, 3, none⟩ (.int .i64 t1798.2.2.2))) rfl (t := 49) (p := 7) rfl rfl ?hr ?_; (case hr => first | (go_simp; done) | (go_simp; rfl)); intro w1812 hst; clear hc1804 hz1805 hc1806 hz1807 hc1808 hz1809 hc1810 hz1811; replace HS : Aside0 (Sep FF w [b13 g1782 g1784 a1792 a1793 a1794 a1795, b12 g1784 A1787 l1786.length n1789 a1791, r11 A1787 l1786.length n1789 l1786, b2 g1801 t1798.1 t1798.2.1 t1798.2.2.1 t1798.2.2.2] w1812) := ⟨by rw [hst]; exact HS.out.setAll (l1 := [b13 g1782 g1784 a1792 a1793 a1794 a1795, b12 g1784 A1787 l1786.length n1789 a1791, r11 A1787 l1786.length n1789 l1786]) (l2 := []) [.int .i64 t1798.1, .int .i64 t1798.2.1, .int .i64 t1798.2.2.1, .int .i64 t1798.2.2.2] rfl⟩; clear hst; have hc1813 : w1812.cell? ⟨g1801, 0, none⟩ = some (.int .i64 t1798.1) := blk_cellv (HS.out.at3) 0 rfl))
  clear hc1813
  obtain ⟨t1814, HA1815, H⟩ := bind_some H
  refine (ground_within.calls a1796 t1798.1 0 t1814 _ ⟨Sep.start _⟩ HA1815).mono ?_
  rintro e_ w1816 ⟨rfl, hS⟩
  replace HS : Aside0 (Sep FF w [b13 g1782 g1784 a1792 a1793 a1794 a1795, b12 g1784 A1787 l1786.length n1789 a1791, r11 A1787 l1786.length n1789 l1786, b2 g1801 t1798.1 t1798.2.1 t1798.2.2.1 t1798.2.2.2] w1816) := ⟨HS.out.call hS⟩
  clear hS
  by_cases c1817 : t1814 = (-1)
  · have H := if_yes c1817 H
    have c1817b0 : (t1814 == (-1)) = true := beq_iff_eq.mpr c1817
    have c1817b1 : (t1814 != (-1)) = false := bne_eq_false_iff_eq.mpr c1817
    clear c1817
    replace HS : Aside0 (Sep FF w [b13 g1782 g1784 a1792 a1793 a1794 a1795, b12 g1784 A1787 l1786.length n1789 a1791, r11 A1787 l1786.length n1789 l1786] w1816) := ⟨HS.out.sub (.cons_cons _ (.cons_cons _ (.cons_cons _ (.cons _ .slnil))))⟩
    go_wp2_with fail
    go_ret
    rw [← some_eq H]
    exact ⟨(by first | rfl | (simp [IntKind.wrap_u32]; done)), HS.out⟩
  · have H := if_no c1817 H
    have c1817b0 : (t1814 == (-1)) = false := beq_eq_false_iff_ne.mpr c1817
    have c1817b1 : (t1814 != (-1)) = true := bne_iff_ne.mpr c1817
    clear c1817
    have hc1818 : w1816.cell? ⟨g1801, 1, none⟩ = some (.int .i64 t1798.2.1) := blk_cellv (HS.out.at3) 1 rfl
    have hc1819 : w1816.cell? ⟨g1801, 2, none⟩ = some (.int .i64 t1798.2.2.1) := blk_cellv (HS.out.at3) 2 rfl
    go_wp2_with fail
    clear hc1818 hc1819
    obtain ⟨t1820, HA1821, H⟩ := bind_some H
    refine (ground_within.calls a1797 t1798.2.1 (wrap64 ((wrap64 (24 + t1798.2.2.1)) + (wrap64 (a1796 * t1798.2.1)))) t1820 _ ⟨Sep.start _⟩ HA1821).mono ?_
    rintro e_ w1822 ⟨rfl, hS⟩
    replace HS : Aside0 (Sep FF w [b13 g1782 g1784 a1792 a1793 a1794 a1795, b12 g1784 A1787 l1786.length n1789 a1791, r11 A1787 l1786.length n1789 l1786, b2 g1801 t1798.1 t1798.2.1 t1798.2.2.1 t1798.2.2.2] w1822) := ⟨HS.out.call hS⟩
    clear hS
    replace HS : Aside0 (Sep FF w [b13 g1782 g1784 a1792 a1793 a1794 a1795, b12 g1784 A1787 l1786.length n1789 a1791, r11 A1787 l1786.length n1789 l1786] w1822) := ⟨HS.out.sub (.cons_cons _ (.cons_cons _ (.cons_cons _ (.cons _ .slnil))))⟩
    go_wp2_with fail
    go_ret
    rw [← some_eq H]
    exact ⟨(by first | rfl | (simp [IntKind.wrap_u32]; done)), HS.out⟩

set_option maxHeartbeats 30000000 in
set_option maxRecDepth 100000 in
theorem store_Store_Put.calls (l1829 : List Int) (a1834 : Int) (a1835 : Int) (a1836 : Int) (g1827 : Nat) (A1830 : Option Addr) (m1831 : Nat) (n1832 : Nat) (r : Bool × Int × List Int) (w : World)   (HS : Aside0 (Sep (fps [b12 g1827 A1830 m1831 n1832 a1834, r11 A1830 m1831 n1832 l1829]) w [b12 g1827 A1830 m1831 n1832 a1834, r11 A1830 m1831 n1832 l1829] w)) (H : Aside0 (store_Store_Put.f l1829 a1834 a1835 a1836 = some r)) :
    Calls Try.prog 22 #[.pointer (some ⟨g1827, 0, none⟩), .int .i64 a1835, .int .u32 a1836] w fun e w' => e = .returned (.bool r.1) ∧ Sep (fps [b12 g1827 A1830 m1831 n1832 a1834, r11 A1830 m1831 n1832 l1829]) w [b12 g1827 A1830 m1831 n1832 r.2.1, r11 A1830 m1831 n1832 r.2.2] w' := by
  generalize (fps [b12 g1827 A1830 m1831 n1832 a1834, r11 A1830 m1831 n1832 l1829]) = FF at HS ⊢
  obtain rfl := (row_len (HS.out.at1)).symm
  unfold store_Store_Put.f at H
  go_enter Try.func22, Try.ntmps22
  go_wp2_with fail
  obtain ⟨t1853, HA1854, H⟩ := bind_some H
  refine (store_Store_has.calls l1829 a1834 a1835 g1827 A1830 l1829.length n1832 t1853 _ ⟨HS.out.begin⟩ HA1854).mono ?_
  rintro e_ w1855 ⟨rfl, hS⟩
  replace HS : Aside0 (Sep FF w [b12 g1827 A1830 l1829.length n1832 a1834, r11 A1830 l1829.length n1832 l1829] w1855) := ⟨HS.out.call hS⟩
  clear hS
  by_cases c1856 : t1853 = true
  · have H := if_yes c1856 H
    have c1856b0 : t1853 = true := c1856
    have c1856b1 : (!t1853) = false := by rw [c1856b0]; rfl
    try rw [c1856b1]
    clear c1856
    go_wp2_with fail
    obtain ⟨t1857, HA1858, H⟩ := bind_some H
    refine (atomic_Uint64_Add.calls l1829 a1834 1 g1827 A1830 l1829.length n1832 t1857 _ ⟨HS.out.begin⟩ HA1858).mono ?_
    rintro e_ w1859 ⟨rfl, hS⟩
    replace HS : Aside0 (Sep FF w [b12 g1827 A1830 l1829.length n1832 t1857.2, r11 A1830 l1829.length n1832 l1829] w1859) := ⟨HS.out.call hS⟩
    clear hS
    by_cases c1861 : 0 ≤ a1835
    · have H := if_yes c1861 H
      have c1861b0 : decide (0 ≤ a1835) = true := decide_eq_true c1861
      have c1861p : (0 ≤ a1835) = True := eq_true c1861
      clear c1861
      by_cases c1862 : a1835 < (l1829.length : Int)
      · have H := if_yes c1862 H
        have c1862b0 : decide (a1835 < (l1829.length : Int)) = true := decide_eq_true c1862
        have c1862p : (a1835 < (l1829.length : Int)) = True := eq_true c1862
        clear c1862
        obtain ⟨y1865, HA1866, H⟩ := bind_some H
        have hc1860 : w1859.cell? ⟨g1827, 0, none⟩ = some (.slice A1830 l1829.length n1832) := blk_cellv (HS.out.at0) 0 rfl
        obtain ⟨g1863, ea⟩ := row_at (HS.out.at1) (by have := (of_decide_eq_true c1861b0); have := (of_decide_eq_true c1862b0); omega); cases ea
        have hx1867 := (row_get 0 (HS.out.at1) a1835 (of_decide_eq_true c1861b0) (of_decide_eq_true c1862b0)).1
        have hz1868 := (row_get 0 (HS.out.at1) a1835 (of_decide_eq_true c1861b0) (of_decide_eq_true c1862b0)).2
        go_wp2_with (first | ((with_reducible refine gate_store (t := 23) (p := 21) rfl ?_); refine store_event (w1 := World.setCell w1859 ⟨g1863, (a1835).toNat, none⟩ (.int .u32 a1836)) rfl (t := 23) (p := 21) rfl rfl ?hr ?_; (case hr => first | (go_simp; done) | (go_simp; rfl)); intro w1864 hst; clear hc1860 hx1867 hz1868; have hq := Sep.rowset (l1 := [b12 g1827 (some ⟨g1863, 0, none⟩) l1829.length n1832 t1857.2]) (l2 := []) HS.out a1835 a1836; rw [← hst, some_eq HA1866] at hq; replace HS : Aside0 (Sep FF w [b12 g1827 (some ⟨g1863, 0, none⟩) l1829.length n1832 t1857.2, r11 (some ⟨g1863, 0, none⟩) l1829.length n1832 y1865] w1864) := ⟨hq⟩; clear hst hq))
        go_ret
        rw [← some_eq H]
        exact ⟨(by first | rfl | (simp [IntKind.wrap_u32]; done)), HS.out⟩
      · have H := if_no c1862 H
        have c1862b0 : decide (a1835 < (l1829.length : Int)) = false := decide_eq_false c1862
        clear c1862
        exact (none_no H).elim
    · have H := if_no c1861 H
      have c1861b0 : decide (0 ≤ a1835) = false := decide_eq_false c1861
      clear c1861
      exact (none_no H).elim
  · have H := if_no c1856 H
    have c1856b0 : t1853 = false := by simpa using c1856
    have c1856b1 : (!t1853) = true := by rw [c1856b0]; rfl
    try rw [c1856b1]
    clear c1856
    go_wp2_with fail
    go_ret
    rw [← some_eq H]
    exact ⟨(by first | rfl | (simp [IntKind.wrap_u32]; done)), HS.out⟩

set_option maxHeartbeats 30000000 in
set_option maxRecDepth 100000 in
theorem ground_Ground_SetWord.calls (l1765 : List Int) (a1770 : Int) (a1771 : Int) (a1772 : Int) (a1773 : Int) (a1774 : Int) (a1775 : Int) (a1776 : Int) (a1777 : Int) (g1761 : Nat) (g1763 : Nat) (A1766 : Option Addr) (m1767 : Nat) (n1768 : Nat) (r : Bool × Int × List Int) (w : World)   (HS : Aside0 (Sep (fps [b13 g1761 g1763 a1771 a1772 a1773 a1774, b12 g1763 A1766 m1767 n1768 a1770, r11 A1766 m1767 n1768 l1765]) w [b13 g1761 g1763 a1771 a1772 a1773 a1774, b12 g1763 A1766 m1767 n1768 a1770, r11 A1766 m1767 n1768 l1765] w)) (H : Aside0 (ground_Ground_SetWord.f l1765 a1770 a1771 a1772 a1773 a1774 a1775 a1776 a1777 = some r)) :
    Calls Try.prog 46 #[.pointer (some ⟨g1761, 0, none⟩), .int .i64 a1775, .int .i64 a1776, .int .u32 a1777] w fun e w' => e = .returned (.bool r.1) ∧ Sep (fps [b13 g1761 g1763 a1771 a1772 a1773 a1774, b12 g1763 A1766 m1767 n1768 a1770, r11 A1766 m1767 n1768 l1765]) w [b13 g1761 g1763 a1771 a1772 a1773 a1774, b12 g1763 A1766 m1767 n1768 r.2.1, r11 A1766 m1767 n1768 r.2.2] w' := by
  generalize (fps [b13 g1761 g1763 a1771 a1772 a1773 a1774, b12 g1763 A1766 m1767 n1768 a1770, r11 A1766 m1767 n1768 l1765]) = FF at HS ⊢
  obtain rfl := (row_len (HS.out.at2)).symm
  unfold ground_Ground_SetWord.f at H
  go_enter Try.func46, Try.ntmps46
  go_wp2_with fail
  obtain ⟨t1872, HA1873, H⟩ := bind_some H
  refine (ground_Ground_all.calls l1765 a1770 a1771 a1772 a1773 a1774 g1761 g1763 A1766 l1765.length n1768 t1872 _ ⟨HS.out.begin⟩ HA1873).mono ?_
  rintro e_ w1874 ⟨rfl, hS⟩
  replace HS : Aside0 (Sep FF w [b13 g1761 g1763 a1771 a1772 a1773 a1774, b12 g1763 A1766 l1765.length n1768 a1770, r11 A1766 l1765.length n1768 l1765] w1874) := ⟨HS.out.call hS⟩
  clear hS
  go_wp2_with fail
  obtain ⟨t1875, HA1876, H⟩ := bind_some H
  refine (ground_Ground_word.calls l1765 a1770 a1771 a1772 a1773 a1774 a1775 a1776 g1761 g1763 A1766 l1765.length n1768 t1875 _ ⟨HS.out.begin⟩ HA1876).mono ?_
  rintro e_ w1877 ⟨rfl, hS⟩
  replace HS : Aside0 (Sep FF w [b13 g1761 g1763 a1771 a1772 a1773 a1774, b12 g1763 A1766 l1765.length n1768 a1770, r11 A1766 l1765.length n1768 l1765] w1877) := ⟨HS.out.call hS⟩
  clear hS
  go_wp2_with fail
  replace HS : Aside0 (Sep FF w [r11 A1766 l1765.length n1768 l1765, b13 g1761 g1763 a1771 a1772 a1773 a1774, b12 g1763 A1766 l1765.length n1768 a1770] w1877) := ⟨HS.out.front 2 (by simp)⟩
  replace HS : Aside0 (Sep FF w [b12 g1763 A1766 l1765.length n1768 a1770, r11 A1766 l1765.length n1768 l1765, b13 g1761 g1763 a1771 a1772 a1773 a1774] w1877) := ⟨HS.out.front 2 (by simp)⟩
  obtain ⟨t1878, HA1879, H⟩ := bind_some H
  refine (store_Store_Put.calls l1765 a1770 t1875 a1777 g1763 A1766 l1765.length n1768 t1878 _ ⟨HS.out.begin⟩ HA1879).mono ?_
  rintro e_ w1880 ⟨rfl, hS⟩
  replace HS : Aside0 (Sep FF w [b12 g1763 A1766 l1765.length n1768 t1878.2.1, r11 A1766 l1765.length n1768 t1878.2.2, b13 g1761 g1763 a1771 a1772 a1773 a1774] w1880) := ⟨HS.out.call hS⟩
  clear hS
  go_wp2_with fail
  go_ret
  rw [← some_eq H]
  exact ⟨(by first | rfl | (simp [IntKind.wrap_u32]; done)), ((((HS.out).front 1 (by simp)).front 1 (by simp)).front 2 (by simp)).keep (l := [b13 g1761 g1763 a1771 a1772 a1773 a1774, b12 g1763 A1766 l1765.length n1768 t1878.2.1, r11 A1766 l1765.length n1768 t1878.2.2]) (rest := [])⟩

set_option maxHeartbeats 30000000 in
set_option maxRecDepth 100000 in
theorem ground_Ground_set.calls (l1912 : List Int) (a1917 : Int) (a1918 : Int) (a1919 : Int) (a1920 : Int) (a1921 : Int) (a1922 : Int) (a1923 : Int) (g1908 : Nat) (g1910 : Nat) (A1913 : Option Addr) (m1914 : Nat) (n1915 : Nat) (r : Bool × Int × List Int) (w : World)   (HS : Aside0 (Sep (fps [b13 g1908 g1910 a1918 a1919 a1920 a1921, b12 g1910 A1913 m1914 n1915 a1917, r11 A1913 m1914 n1915 l1912]) w [b13 g1908 g1910 a1918 a1919 a1920 a1921, b12 g1910 A1913 m1914 n1915 a1917, r11 A1913 m1914 n1915 l1912] w)) (H : Aside0 (ground_Ground_set.f l1912 a1917 a1918 a1919 a1920 a1921 a1922 a1923 = some r)) :
    Calls Try.prog 85 #[.pointer (some ⟨g1908, 0, none⟩), .int .i64 a1922, .int .i64 a1923] w fun e w' => e = .returned (.bool r.1) ∧ Sep (fps [b13 g1908 g1910 a1918 a1919 a1920 a1921, b12 g1910 A1913 m1914 n1915 a1917, r11 A1913 m1914 n1915 l1912]) w [b13 g1908 g1910 a1918 a1919 a1920 a1921, b12 g1910 A1913 m1914 n1915 r.2.1, r11 A1913 m1914 n1915 r.2.2] w' := by
  generalize (fps [b13 g1908 g1910 a1918 a1919 a1920 a1921, b12 g1910 A1913 m1914 n1915 a1917, r11 A1913 m1914 n1915 l1912]) = FF at HS ⊢
  obtain rfl := (row_len (HS.out.at2)).symm
  unfold ground_Ground_set.f at H
  go_enter Try.func85, Try.ntmps85
  by_cases c1932 : a1923 < 0
  · have H := if_yes c1932 H
    have c1932b0 : decide (a1923 < 0) = true := decide_eq_true c1932
    clear c1932
    go_wp2_with fail
    go_ret
    rw [← some_eq H]
    exact ⟨(by first | rfl | (simp [IntKind.wrap_u32]; done)), HS.out⟩
  · have H := if_no c1932 H
    have c1932b0 : decide (a1923 < 0) = false := decide_eq_false c1932
    clear c1932
    by_cases c1933 : a1923 > 4294967295
    · have H := if_yes c1933 H
      have c1933b0 : decide (4294967295 < a1923) = true := decide_eq_true c1933
      clear c1933
      go_wp2_with fail
      go_ret
      rw [← some_eq H]
      exact ⟨(by first | rfl | (simp [IntKind.wrap_u32]; done)), HS.out⟩
    · have H := if_no c1933 H
      have c1933b0 : decide (4294967295 < a1923) = false := decide_eq_false c1933
      clear c1933
      go_wp2_with fail
      obtain ⟨t1934, HA1935, H⟩ := bind_some H
      refine (ground_Ground_all.calls l1912 a1917 a1918 a1919 a1920 a1921 g1908 g1910 A1913 l1912.length n1915 t1934 _ ⟨HS.out.begin⟩ HA1935).mono ?_
      rintro e_ w1936 ⟨rfl, hS⟩
      replace HS : Aside0 (Sep FF w [b13 g1908 g1910 a1918 a1919 a1920 a1921, b12 g1910 A1913 l1912.length n1915 a1917, r11 A1913 l1912.length n1915 l1912] w1936) := ⟨HS.out.call hS⟩
      clear hS
      go_wp2_with fail
      replace HS : Aside0 (Sep FF w [r11 A1913 l1912.length n1915 l1912, b13 g1908 g1910 a1918 a1919 a1920 a1921, b12 g1910 A1913 l1912.length n1915 a1917] w1936) := ⟨HS.out.front 2 (by simp)⟩
      replace HS : Aside0 (Sep FF w [b12 g1910 A1913 l1912.length n1915 a1917, r11 A1913 l1912.length n1915 l1912, b13 g1908 g1910 a1918 a1919 a1920 a1921] w1936) := ⟨HS.out.front 2 (by simp)⟩
      obtain ⟨t1937, HA1938, H⟩ := bind_some H
      refine (store_Store_Put.calls l1912 a1917 a1922 ((a1923) % 4294967296) g1910 A1913 l1912.length n1915 t1937 _ ⟨HS.out.begin⟩ HA1938).mono ?_
      rintro e_ w1939 ⟨rfl, hS⟩
      replace HS : Aside0 (Sep FF w [b12 g1910 A1913 l1912.length n1915 t1937.2.1, r11 A1913 l1912.length n1915 t1937.2.2, b13 g1908 g1910 a1918 a1919 a1920 a1921] w1939) := ⟨HS.out.call hS⟩
      clear hS
      go_wp2_with fail
      go_ret
      rw [← some_eq H]
      exact ⟨(by first | rfl | (simp [IntKind.wrap_u32]; done)), ((((HS.out).front 1 (by simp)).front 1 (by simp)).front 2 (by simp)).keep (l := [b13 g1908 g1910 a1918 a1919 a1920 a1921, b12 g1910 A1913 l1912.length n1915 t1937.2.1, r11 A1913 l1912.length n1915 t1937.2.2]) (rest := [])⟩

set_option maxHeartbeats 30000000 in
set_option maxRecDepth 100000 in
theorem ground_Ground_SetReg.calls (l1892 : List Int) (a1897 : Int) (a1898 : Int) (a1899 : Int) (a1900 : Int) (a1901 : Int) (a1902 : Int) (a1903 : Int) (g1888 : Nat) (g1890 : Nat) (A1893 : Option Addr) (m1894 : Nat) (n1895 : Nat) (r : Bool × Int × List Int) (w : World)   (HS : Aside0 (Sep (fps [b13 g1888 g1890 a1898 a1899 a1900 a1901, b12 g1890 A1893 m1894 n1895 a1897, r11 A1893 m1894 n1895 l1892]) w [b13 g1888 g1890 a1898 a1899 a1900 a1901, b12 g1890 A1893 m1894 n1895 a1897, r11 A1893 m1894 n1895 l1892] w)) (H : Aside0 (ground_Ground_SetReg.f l1892 a1897 a1898 a1899 a1900 a1901 a1902 a1903 = some r)) :
    Calls Try.prog 42 #[.pointer (some ⟨g1888, 0, none⟩), .int .i64 a1902, .int .i64 a1903] w fun e w' => e = .returned (.bool r.1) ∧ Sep (fps [b13 g1888 g1890 a1898 a1899 a1900 a1901, b12 g1890 A1893 m1894 n1895 a1897, r11 A1893 m1894 n1895 l1892]) w [b13 g1888 g1890 a1898 a1899 a1900 a1901, b12 g1890 A1893 m1894 n1895 r.2.1, r11 A1893 m1894 n1895 r.2.2] w' := by
  generalize (fps [b13 g1888 g1890 a1898 a1899 a1900 a1901, b12 g1890 A1893 m1894 n1895 a1897, r11 A1893 m1894 n1895 l1892]) = FF at HS ⊢
  obtain rfl := (row_len (HS.out.at2)).symm
  unfold ground_Ground_SetReg.f at H
  go_enter Try.func42, Try.ntmps42
  go_wp2_with fail
  obtain ⟨t1943, HA1944, H⟩ := bind_some H
  refine (ground_reg.calls a1902 t1943 _ ⟨Sep.start _⟩ HA1944).mono ?_
  rintro e_ w1945 ⟨rfl, hS⟩
  replace HS : Aside0 (Sep FF w [b13 g1888 g1890 a1898 a1899 a1900 a1901, b12 g1890 A1893 l1892.length n1895 a1897, r11 A1893 l1892.length n1895 l1892] w1945) := ⟨HS.out.call hS⟩
  clear hS
  go_wp2_with fail
  obtain ⟨t1946, HA1947, H⟩ := bind_some H
  refine (ground_Ground_set.calls l1892 a1897 a1898 a1899 a1900 a1901 t1943 a1903 g1888 g1890 A1893 l1892.length n1895 t1946 _ ⟨HS.out.begin⟩ HA1947).mono ?_
  rintro e_ w1948 ⟨rfl, hS⟩
  replace HS : Aside0 (Sep FF w [b13 g1888 g1890 a1898 a1899 a1900 a1901, b12 g1890 A1893 l1892.length n1895 t1946.2.1, r11 A1893 l1892.length n1895 t1946.2.2] w1948) := ⟨HS.out.call hS⟩
  clear hS
  go_wp2_with fail
  go_ret
  rw [← some_eq H]
  exact ⟨(by first | rfl | (simp [IntKind.wrap_u32]; done)), HS.out⟩

set_option maxHeartbeats 30000000 in
set_option maxRecDepth 100000 in
theorem chain_Add_1.calls (a1730 : Int) (a1731 : Int) (a1732 : Int) (a1733 : Int) (a1734 : Int) (l1742 : List Int) (a1747 : Int) (a1748 : Int) (a1749 : Int) (a1750 : Int) (a1751 : Int) (a1754 : Int) (g1736 : Nat) (g1738 : Nat) (g1740 : Nat) (A1743 : Option Addr) (m1744 : Nat) (n1745 : Nat) (g1753 : Nat) (r : Int × List Int) (w : World)   (HS : Aside0 (Sep (fps [b14 g1736 g1738, b13 g1738 g1740 a1748 a1749 a1750 a1751, b12 g1740 A1743 m1744 n1745 a1747, r11 A1743 m1744 n1745 l1742, b6 g1753 a1754]) w [b14 g1736 g1738, b13 g1738 g1740 a1748 a1749 a1750 a1751, b12 g1740 A1743 m1744 n1745 a1747, r11 A1743 m1744 n1745 l1742, b6 g1753 a1754] w)) (H : Aside0 (chain_Add_1.f a1730 a1731 a1732 a1733 a1734 l1742 a1747 a1748 a1749 a1750 a1751 a1754 = some r)) :
    Calls Try.prog 89 #[.agg #[.int .i64 a1730, .int .i64 a1731, .int .i64 a1732], .int .i64 a1733, .int .i64 a1734, .pointer (some ⟨g1736, 0, none⟩), .pointer (some ⟨g1753, 0, none⟩)] w fun e w' => e = .returned (.tuple #[]) ∧ Sep (fps [b14 g1736 g1738, b13 g1738 g1740 a1748 a1749 a1750 a1751, b12 g1740 A1743 m1744 n1745 a1747, r11 A1743 m1744 n1745 l1742, b6 g1753 a1754]) w [b14 g1736 g1738, b13 g1738 g1740 a1748 a1749 a1750 a1751, b12 g1740 A1743 m1744 n1745 r.1, r11 A1743 m1744 n1745 r.2, b6 g1753 a1754] w' := by
  generalize (fps [b14 g1736 g1738, b13 g1738 g1740 a1748 a1749 a1750 a1751, b12 g1740 A1743 m1744 n1745 a1747, r11 A1743 m1744 n1745 l1742, b6 g1753 a1754]) = FF at HS ⊢
  obtain rfl := (row_len (HS.out.at3)).symm
  unfold chain_Add_1.f at H
  go_enter Try.func89, Try.ntmps89
  go_wp2_with (first | ((with_reducible refine gate_dst (N := 5) rfl ?_); refine box_on ?hg (N := 5) ?hd (cs := #[.int .i64 a1730, .int .i64 a1731, .int .i64 a1732]) (t := 134) ?hr ?_; (case hd => rfl); (case hg => rfl); (case hr => first | (go_simp; done) | (go_simp; rfl)); intro g1957 hg w1958 hbox hb; replace HS : Aside0 (Sep FF w [b14 g1736 g1738, b13 g1738 g1740 a1748 a1749 a1750 a1751, b12 g1740 A1743 l1742.length n1745 a1747, r11 A1743 l1742.length n1745 l1742, b6 g1753 a1754, b1 g1957 a1730 a1731 a1732] w1958) := ⟨HS.out.box hg hbox hb⟩; clear hg hbox hb; have hc1960 : w1958.cell? ⟨g1736, 0, none⟩ = some (.pointer (some ⟨g1738, 0, none⟩)) := blk_cellv (HS.out.at0) 0 rfl; have hc1961 : w1958.cell? ⟨g1753, 0, none⟩ = some (.int .i64 a1754) := blk_cellv (HS.out.at4) 0 rfl))
  clear hc1960 hc1961
  replace HS : Aside0 (Sep FF w [r11 A1743 l1742.length n1745 l1742, b14 g1736 g1738, b13 g1738 g1740 a1748 a1749 a1750 a1751, b12 g1740 A1743 l1742.length n1745 a1747, b6 g1753 a1754, b1 g1957 a1730 a1731 a1732] w1958) := ⟨HS.out.front 3 (by simp)⟩
  replace HS : Aside0 (Sep FF w [b12 g1740 A1743 l1742.length n1745 a1747, r11 A1743 l1742.length n1745 l1742, b14 g1736 g1738, b13 g1738 g1740 a1748 a1749 a1750 a1751, b6 g1753 a1754, b1 g1957 a1730 a1731 a1732] w1958) := ⟨HS.out.front 3 (by simp)⟩
  replace HS : Aside0 (Sep FF w [b13 g1738 g1740 a1748 a1749 a1750 a1751, b12 g1740 A1743 l1742.length n1745 a1747, r11 A1743 l1742.length n1745 l1742, b14 g1736 g1738, b6 g1753 a1754, b1 g1957 a1730 a1731 a1732] w1958) := ⟨HS.out.front 3 (by simp)⟩
  obtain ⟨t1962, HA1963, H⟩ := bind_some H
  refine (ground_Ground_SetWord.calls l1742 a1747 a1748 a1749 a1750 a1751 a1754 5 0 g1738 g1740 A1743 l1742.length n1745 t1962 _ ⟨HS.out.begin⟩ HA1963).mono ?_
  rintro e_ w1964 ⟨rfl, hS⟩
  replace HS : Aside0 (Sep FF w [b13 g1738 g1740 a1748 a1749 a1750 a1751, b12 g1740 A1743 l1742.length n1745 t1962.2.1, r11 A1743 l1742.length n1745 t1962.2.2, b14 g1736 g1738, b6 g1753 a1754, b1 g1957 a1730 a1731 a1732] w1964) := ⟨HS.out.call hS⟩
  clear hS
  by_cases c1965 : a1734 = 0
  · have H := if_yes c1965 H
    have c1965b0 : (a1734 == 0) = true := beq_iff_eq.mpr c1965
    have c1965b1 : (a1734 != 0) = false := bne_eq_false_iff_eq.mpr c1965
    clear c1965
    have hc1966 : w1964.cell? ⟨g1736, 0, none⟩ = some (.pointer (some ⟨g1738, 0, none⟩)) := blk_cellv (HS.out.at3) 0 rfl
    have hc1967 : w1964.cell? ⟨g1957, 0, none⟩ = some (.int .i64 a1730) := blk_cellv (HS.out.at5) 0 rfl
    go_wp2_with fail
    clear hc1966 hc1967
    obtain ⟨t1968, HA1969, H⟩ := bind_some H
    refine (ground_Ground_SetReg.calls t1962.2.2 t1962.2.1 a1748 a1749 a1750 a1751 a1730 a1733 g1738 g1740 A1743 l1742.length n1745 t1968 _ ⟨HS.out.begin⟩ HA1969).mono ?_
    rintro e_ w1970 ⟨rfl, hS⟩
    replace HS : Aside0 (Sep FF w [b13 g1738 g1740 a1748 a1749 a1750 a1751, b12 g1740 A1743 l1742.length n1745 t1968.2.1, r11 A1743 l1742.length n1745 t1968.2.2, b14 g1736 g1738, b6 g1753 a1754, b1 g1957 a1730 a1731 a1732] w1970) := ⟨HS.out.call hS⟩
    clear hS
    have hc1971 : w1970.cell? ⟨g1736, 0, none⟩ = some (.pointer (some ⟨g1738, 0, none⟩)) := blk_cellv (HS.out.at3) 0 rfl
    have hc1972 : w1970.cell? ⟨g1957, 1, none⟩ = some (.int .i64 a1731) := blk_cellv (HS.out.at5) 1 rfl
    go_wp2_with fail
    clear hc1971 hc1972
    obtain ⟨t1973, HA1974, H⟩ := bind_some H
    refine (ground_Ground_SetReg.calls t1968.2.2 t1968.2.1 a1748 a1749 a1750 a1751 a1731 a1733 g1738 g1740 A1743 l1742.length n1745 t1973 _ ⟨HS.out.begin⟩ HA1974).mono ?_
    rintro e_ w1975 ⟨rfl, hS⟩
    replace HS : Aside0 (Sep FF w [b13 g1738 g1740 a1748 a1749 a1750 a1751, b12 g1740 A1743 l1742.length n1745 t1973.2.1, r11 A1743 l1742.length n1745 t1973.2.2, b14 g1736 g1738, b6 g1753 a1754, b1 g1957 a1730 a1731 a1732] w1975) := ⟨HS.out.call hS⟩
    clear hS
    replace HS : Aside0 (Sep FF w [b13 g1738 g1740 a1748 a1749 a1750 a1751, b12 g1740 A1743 l1742.length n1745 t1973.2.1, r11 A1743 l1742.length n1745 t1973.2.2, b14 g1736 g1738, b6 g1753 a1754] w1975) := ⟨HS.out.sub (.cons_cons _ (.cons_cons _ (.cons_cons _ (.cons_cons _ (.cons_cons _ (.cons _ .slnil))))))⟩
    go_wp2_with fail
    first | go_end0 | refine bodyPost_ret (results_none rfl _ _ _) rfl ?_
    rw [← some_eq H]
    exact ⟨rfl, ((((((HS.out).front 4 (by simp)).front 3 (by simp)).front 3 (by simp)).front 3 (by simp)).front 4 (by simp)).keep (l := [b14 g1736 g1738, b13 g1738 g1740 a1748 a1749 a1750 a1751, b12 g1740 A1743 l1742.length n1745 t1973.2.1, r11 A1743 l1742.length n1745 t1973.2.2, b6 g1753 a1754]) (rest := [])⟩
  · have H := if_no c1965 H
    have c1965b0 : (a1734 == 0) = false := beq_eq_false_iff_ne.mpr c1965
    have c1965b1 : (a1734 != 0) = true := bne_iff_ne.mpr c1965
    clear c1965
    go_wp2_with fail
    refine start_ (n := 9) (S := (fun w' => w'.cell? ⟨g1736, 0, none⟩ = some (.pointer (some ⟨g1738, 0, none⟩)) ∧ w'.cell? ⟨g1957, 1, none⟩ = some (.int .i64 a1731))) (ds := []) #[false, false, false, false, false, false, false, false, false] (by kernel_rfl) rfl rfl (⟨blk_cellv ((HS.out.drew).at3) 0 rfl, blk_cellv ((HS.out.drew).at5) 1 rfl⟩) (fun hHeld => ?_)
    have HS_ := Aside0.mk HS.out.drew
    clear HS
    generalize World.drew _ = w1977 at HS_ hHeld ⊢
    have HS := HS_
    clear HS_
    refine pure_ (i := 2) (N := some 20) (v := ?_) (a' := ?_) #[false, false, true, false, false, false, false, false, false] rfl rfl (by kernel_rfl) (fun _ _ _ h => h) (Or.inl ⟨by rfl, ?_⟩) ?_ ?_
    rotate_left
    · intro w'
      go_simp
      with_reducible rfl
    rotate_left
    · simp only [Act.put, List.setIfInBounds_toArray, List.set_cons_zero, List.set_cons_succ, i64_w, i32_w]
      rfl
    refine pure_ (i := 6) (N := some 24) (v := ?_) (a' := ?_) #[false, false, true, false, false, false, true, false, false] rfl rfl (by kernel_rfl) (fun _ _ _ h => h) (Or.inl ⟨by rfl, ?_⟩) ?_ ?_
    rotate_left
    · intro w'
      go_simp
      with_reducible rfl
    rotate_left
    · simp only [Act.put, List.setIfInBounds_toArray, List.set_cons_zero, List.set_cons_succ, i64_w, i32_w]
      rfl
    refine pure_ (i := 7) (N := some 25) (v := ?_) (a' := ?_) #[false, false, true, false, false, false, true, true, false] rfl rfl (by kernel_rfl) (fun _ _ _ h => h) (Or.inl ⟨by rfl, ?_⟩) ?_ ?_
    rotate_left
    · intro w'
      go_simp
      with_reducible rfl
    rotate_left
    · simp only [Act.put, List.setIfInBounds_toArray, List.set_cons_zero, List.set_cons_succ, i64_w, i32_w]
      rfl
    refine take_ (i := 0) (N := some 18) (v := ?_) (a' := ?_) #[true, false, true, false, false, false, true, true, false] rfl rfl (by kernel_rfl) (fun _ _ _ h => h) (Or.inl ⟨by rfl, ?_⟩) hHeld ?_ ?_
    rotate_left
    · rintro w' hS'
      obtain ⟨s0, s1⟩ := hS'
      go_simp
      with_reducible rfl
    rotate_left
    · simp only [Act.put, List.setIfInBounds_toArray, List.set_cons_zero, List.set_cons_succ, i64_w, i32_w]
      rfl
    refine take_ (i := 1) (N := some 19) (v := ?_) (a' := ?_) #[true, true, true, false, false, false, true, true, false] rfl rfl (by kernel_rfl) (fun _ _ _ h => h) (Or.inl ⟨by rfl, ?_⟩) hHeld ?_ ?_
    rotate_left
    · rintro w' hS'
      obtain ⟨s0, s1⟩ := hS'
      go_simp
      with_reducible rfl
    rotate_left
    · simp only [Act.put, List.setIfInBounds_toArray, List.set_cons_zero, List.set_cons_succ, i64_w, i32_w]
      rfl
    refine take_ (i := 3) (N := some 21) (v := ?_) (a' := ?_) #[true, true, true, true, false, false, true, true, false] rfl rfl (by kernel_rfl) (fun _ _ _ h => h) (Or.inl ⟨by rfl, ?_⟩) hHeld ?_ ?_
    rotate_left
    · rintro w' hS'
      obtain ⟨s0, s1⟩ := hS'
      go_simp
      with_reducible rfl
    rotate_left
    · simp only [Act.put, List.setIfInBounds_toArray, List.set_cons_zero, List.set_cons_succ, i64_w, i32_w]
      rfl
    refine one_ (i := 4) (N := some 22) #[true, true, true, true, true, false, true, true, false] rfl rfl (by kernel_rfl) (by decide) (fun K hK => ?_)
    obtain ⟨t1978, HA1979, H⟩ := bind_some H
    refine goes_ Try.func36 (by kernel_rfl) rfl #[.pointer (some ⟨g1738, 0, none⟩), .int .i64 a1731] (by rfl) rfl rfl (by (try simp only [List.map_toArray, List.map_cons, List.map_nil]); first | done | rfl) ?_
    refine (ground_Ground_Reg.calls t1962.2.2 t1962.2.1 a1748 a1749 a1750 a1751 a1731 g1738 g1740 A1743 l1742.length n1745 t1978 _ ⟨HS.out.begin⟩ HA1979).mono ?_
    rintro e_ w1980 ⟨rfl, hS⟩
    replace HS : Aside0 (Sep FF w [b13 g1738 g1740 a1748 a1749 a1750 a1751, b12 g1740 A1743 l1742.length n1745 t1978.2, r11 A1743 l1742.length n1745 t1962.2.2, b14 g1736 g1738, b6 g1753 a1754, b1 g1957 a1730 a1731 a1732] w1980) := ⟨HS.out.call hS⟩
    clear hS
    refine ⟨_, rfl, ?_⟩
    refine hK.out _ _ (⟨blk_cellv (HS.out.at3) 0 rfl, blk_cellv (HS.out.at5) 1 rfl⟩) (fun hHeld => ?_)
    clear hK K
    refine norm_ (a' := ?_) ?_ ?_
    rotate_left
    · show Act.put _ (some 22) _ = _
      simp only [Act.put, List.setIfInBounds_toArray, List.set_cons_zero, List.set_cons_succ, i64_w, i32_w]
      rfl
    refine pure_ (i := 5) (N := some 23) (v := ?_) (a' := ?_) #[true, true, true, true, true, true, true, true, false] rfl rfl (by kernel_rfl) (fun _ _ _ h => h) (Or.inl ⟨by rfl, ?_⟩) ?_ ?_
    rotate_left
    · intro w'
      go_simp
      with_reducible rfl
    rotate_left
    · simp only [Act.put, List.setIfInBounds_toArray, List.set_cons_zero, List.set_cons_succ, i64_w, i32_w]
      rfl
    refine one_ (i := 8) (N := some 26) #[true, true, true, true, true, true, true, true, true] rfl rfl (by kernel_rfl) (by decide) (fun K hK => ?_)
    obtain ⟨t1981, HA1982, H⟩ := bind_some H
    refine goes_ Try.func46 (by kernel_rfl) rfl #[.pointer (some ⟨g1738, 0, none⟩), .int .i64 (wrap64 (t1978.1 - 1)), .int .i64 5, .int .u32 ((a1733) % 4294967296)] (by rfl) rfl rfl (by (try simp only [List.map_toArray, List.map_cons, List.map_nil]); first | done | rfl) ?_
    refine (ground_Ground_SetWord.calls t1962.2.2 t1978.2 a1748 a1749 a1750 a1751 (wrap64 (t1978.1 - 1)) 5 ((a1733) % 4294967296) g1738 g1740 A1743 l1742.length n1745 t1981 _ ⟨HS.out.begin⟩ HA1982).mono ?_
    rintro e_ w1983 ⟨rfl, hS⟩
    replace HS : Aside0 (Sep FF w [b13 g1738 g1740 a1748 a1749 a1750 a1751, b12 g1740 A1743 l1742.length n1745 t1981.2.1, r11 A1743 l1742.length n1745 t1981.2.2, b14 g1736 g1738, b6 g1753 a1754, b1 g1957 a1730 a1731 a1732] w1983) := ⟨HS.out.call hS⟩
    clear hS
    refine ⟨_, rfl, ?_⟩
    refine hK.out _ _ (⟨blk_cellv (HS.out.at3) 0 rfl, blk_cellv (HS.out.at5) 1 rfl⟩) (fun hHeld => ?_)
    clear hK K
    refine norm_ (a' := ?_) ?_ ?_
    rotate_left
    · show Act.put _ (some 26) _ = _
      simp only [Act.put, List.setIfInBounds_toArray, List.set_cons_zero, List.set_cons_succ, i64_w, i32_w]
      rfl
    refine done_ (by kernel_rfl) ?_
    have hc1984 : w1983.cell? ⟨g1736, 0, none⟩ = some (.pointer (some ⟨g1738, 0, none⟩)) := blk_cellv (HS.out.at3) 0 rfl
    have hc1985 : w1983.cell? ⟨g1957, 1, none⟩ = some (.int .i64 a1731) := blk_cellv (HS.out.at5) 1 rfl
    go_wp2_with fail
    clear hc1984 hc1985
    obtain ⟨t1973, HA1986, H⟩ := bind_some H
    refine (ground_Ground_SetReg.calls t1981.2.2 t1981.2.1 a1748 a1749 a1750 a1751 a1731 a1733 g1738 g1740 A1743 l1742.length n1745 t1973 _ ⟨HS.out.begin⟩ HA1986).mono ?_
    rintro e_ w1987 ⟨rfl, hS⟩
    replace HS : Aside0 (Sep FF w [b13 g1738 g1740 a1748 a1749 a1750 a1751, b12 g1740 A1743 l1742.length n1745 t1973.2.1, r11 A1743 l1742.length n1745 t1973.2.2, b14 g1736 g1738, b6 g1753 a1754, b1 g1957 a1730 a1731 a1732] w1987) := ⟨HS.out.call hS⟩
    clear hS
    replace HS : Aside0 (Sep FF w [b13 g1738 g1740 a1748 a1749 a1750 a1751, b12 g1740 A1743 l1742.length n1745 t1973.2.1, r11 A1743 l1742.length n1745 t1973.2.2, b14 g1736 g1738, b6 g1753 a1754] w1987) := ⟨HS.out.sub (.cons_cons _ (.cons_cons _ (.cons_cons _ (.cons_cons _ (.cons_cons _ (.cons _ .slnil))))))⟩
    go_wp2_with fail
    first | go_end0 | refine bodyPost_ret (results_none rfl _ _ _) rfl ?_
    rw [← some_eq H]
    exact ⟨rfl, ((((((HS.out).front 4 (by simp)).front 3 (by simp)).front 3 (by simp)).front 3 (by simp)).front 4 (by simp)).keep (l := [b14 g1736 g1738, b13 g1738 g1740 a1748 a1749 a1750 a1751, b12 g1740 A1743 l1742.length n1745 t1973.2.1, r11 A1743 l1742.length n1745 t1973.2.2, b6 g1753 a1754]) (rest := [])⟩

set_option maxHeartbeats 30000000 in
set_option maxRecDepth 100000 in
theorem chain_put_F89.calls (l1686 : List Int) (a1691 : Int) (a1692 : Int) (a1693 : Int) (a1694 : Int) (a1695 : Int) (a1696 : Int) (a1697 : Int) (a1702 : Int) (g1682 : Nat) (g1684 : Nat) (A1687 : Option Addr) (m1688 : Nat) (n1689 : Nat) (g1699 : Nat) (g1701 : Nat) (r : Bool × Int × List Int) (w : World)   (HS : Aside0 (Sep (fps [b13 g1682 g1684 a1692 a1693 a1694 a1695, b12 g1684 A1687 m1688 n1689 a1691, r11 A1687 m1688 n1689 l1686, b14 g1699 g1682, b6 g1701 a1702]) w [b13 g1682 g1684 a1692 a1693 a1694 a1695, b12 g1684 A1687 m1688 n1689 a1691, r11 A1687 m1688 n1689 l1686, b14 g1699 g1682, b6 g1701 a1702] w)) (H : Aside0 (chain_put_F89.f l1686 a1691 a1692 a1693 a1694 a1695 a1696 a1697 a1702 = some r)) :
    Calls Try.prog 88 #[.pointer (some ⟨g1682, 0, none⟩), .int .i64 a1696, .int .i64 a1697, .func (.func 89) #[] #[.pointer (some ⟨g1699, 0, none⟩), .pointer (some ⟨g1701, 0, none⟩)]] w fun e w' => e = .returned (.bool r.1) ∧ Sep (fps [b13 g1682 g1684 a1692 a1693 a1694 a1695, b12 g1684 A1687 m1688 n1689 a1691, r11 A1687 m1688 n1689 l1686, b14 g1699 g1682, b6 g1701 a1702]) w [b13 g1682 g1684 a1692 a1693 a1694 a1695, b12 g1684 A1687 m1688 n1689 r.2.1, r11 A1687 m1688 n1689 r.2.2, b14 g1699 g1682, b6 g1701 a1702] w' := by
  generalize (fps [b13 g1682 g1684 a1692 a1693 a1694 a1695, b12 g1684 A1687 m1688 n1689 a1691, r11 A1687 m1688 n1689 l1686, b14 g1699 g1682, b6 g1701 a1702]) = FF at HS ⊢
  obtain rfl := (row_len (HS.out.at2)).symm
  unfold chain_put_F89.f at H
  go_enter Try.func88, Try.ntmps88
  go_wp2_with fail
  obtain ⟨t1995, HA1996, H⟩ := bind_some H
  refine (chain_of.calls l1686 a1691 a1692 a1693 a1694 a1695 a1696 g1682 g1684 A1687 l1686.length n1689 t1995 _ ⟨HS.out.begin⟩ HA1996).mono ?_
  rintro e_ w1997 ⟨rfl, hS⟩
  replace HS : Aside0 (Sep FF w [b13 g1682 g1684 a1692 a1693 a1694 a1695, b12 g1684 A1687 l1686.length n1689 a1691, r11 A1687 l1686.length n1689 l1686, b14 g1699 g1682, b6 g1701 a1702] w1997) := ⟨HS.out.call hS⟩
  clear hS
  by_cases c2008 : t1995.2.2.2 = true
  · have H := if_yes c2008 H
    have c2008b0 : t1995.2.2.2 = true := c2008
    have c2008b1 : (!t1995.2.2.2) = false := by rw [c2008b0]; rfl
    try rw [c2008b1]
    clear c2008
    by_cases c2009 : a1697 < 0
    · have H := if_yes c2009 H
      have c2009b0 : decide (a1697 < 0) = true := decide_eq_true c2009
      clear c2009
      go_wp2_with (first | ((with_reducible refine gate_dst (N := 9) rfl ?_); refine box_on ?hg (N := 9) ?hd (cs := #[.int .i64 0, .int .i64 0, .int .i64 0]) (t := 134) ?hr ?_; (case hd => rfl); (case hg => rfl); (case hr => first | (go_simp; done) | (go_simp; rfl)); intro g1998 hg w1999 hbox hb; replace HS : Aside0 (Sep FF w [b13 g1682 g1684 a1692 a1693 a1694 a1695, b12 g1684 A1687 l1686.length n1689 a1691, r11 A1687 l1686.length n1689 l1686, b14 g1699 g1682, b6 g1701 a1702, b1 g1998 0 0 0] w1999) := ⟨HS.out.box hg hbox hb⟩; clear hg hbox hb; have hc2001 : w1999.cell? ⟨g1998, 0, none⟩ = some (.int .i64 0) := blk_cellv (HS.out.at5) 0 rfl; have hz2002 : w1999.frozen? ⟨g1998, 0, none⟩ = false := blk_fz (HS.out.at5) 0; have hc2003 : w1999.cell? ⟨g1998, 1, none⟩ = some (.int .i64 0) := blk_cellv (HS.out.at5) 1 rfl; have hz2004 : w1999.frozen? ⟨g1998, 1, none⟩ = false := blk_fz (HS.out.at5) 1; have hc2005 : w1999.cell? ⟨g1998, 2, none⟩ = some (.int .i64 0) := blk_cellv (HS.out.at5) 2 rfl; have hz2006 : w1999.frozen? ⟨g1998, 2, none⟩ = false := blk_fz (HS.out.at5) 2) | ((with_reducible refine gate_store (t := 134) (p := 9) rfl ?_); refine store_event (w1 := (World.setCell (World.setCell (World.setCell w1999 ⟨g1998, 0, none⟩ (.int .i64 t1995.1)) ⟨g1998, 1, none⟩ (.int .i64 t1995.2.1)) ⟨g1998, 2, none⟩ (.int .i64 t1995.2.2.1))) rfl (t := 134) (p := 9) rfl rfl ?hr ?_; (case hr => first | (go_simp; done) | (go_simp; rfl)); intro w2007 hst; clear hc2001 hz2002 hc2003 hz2004 hc2005 hz2006; replace HS : Aside0 (Sep FF w [b13 g1682 g1684 a1692 a1693 a1694 a1695, b12 g1684 A1687 l1686.length n1689 a1691, r11 A1687 l1686.length n1689 l1686, b14 g1699 g1682, b6 g1701 a1702, b1 g1998 t1995.1 t1995.2.1 t1995.2.2.1] w2007) := ⟨by rw [hst]; exact HS.out.setAll (l1 := [b13 g1682 g1684 a1692 a1693 a1694 a1695, b12 g1684 A1687 l1686.length n1689 a1691, r11 A1687 l1686.length n1689 l1686, b14 g1699 g1682, b6 g1701 a1702]) (l2 := []) [.int .i64 t1995.1, .int .i64 t1995.2.1, .int .i64 t1995.2.2.1] rfl⟩; clear hst; replace HS : Aside0 (Sep FF w [b13 g1682 g1684 a1692 a1693 a1694 a1695, b12 g1684 A1687 l1686.length n1689 a1691, r11 A1687 l1686.length n1689 l1686, b14 g1699 g1682, b6 g1701 a1702] w2007) := ⟨HS.out.sub (.cons_cons _ (.cons_cons _ (.cons_cons _ (.cons_cons _ (.cons_cons _ (.cons _ .slnil))))))⟩))
      go_ret
      rw [← some_eq H]
      exact ⟨(by first | rfl | (simp [IntKind.wrap_u32]; done)), HS.out⟩
    · have H := if_no c2009 H
      have c2009b0 : decide (a1697 < 0) = false := decide_eq_false c2009
      clear c2009
      go_wp2_with (first | ((with_reducible refine gate_dst (N := 9) rfl ?_); refine box_on ?hg (N := 9) ?hd (cs := #[.int .i64 0, .int .i64 0, .int .i64 0]) (t := 134) ?hr ?_; (case hd => rfl); (case hg => rfl); (case hr => first | (go_simp; done) | (go_simp; rfl)); intro g1998 hg w1999 hbox hb; replace HS : Aside0 (Sep FF w [b13 g1682 g1684 a1692 a1693 a1694 a1695, b12 g1684 A1687 l1686.length n1689 a1691, r11 A1687 l1686.length n1689 l1686, b14 g1699 g1682, b6 g1701 a1702, b1 g1998 0 0 0] w1999) := ⟨HS.out.box hg hbox hb⟩; clear hg hbox hb; have hc2001 : w1999.cell? ⟨g1998, 0, none⟩ = some (.int .i64 0) := blk_cellv (HS.out.at5) 0 rfl; have hz2002 : w1999.frozen? ⟨g1998, 0, none⟩ = false := blk_fz (HS.out.at5) 0; have hc2003 : w1999.cell? ⟨g1998, 1, none⟩ = some (.int .i64 0) := blk_cellv (HS.out.at5) 1 rfl; have hz2004 : w1999.frozen? ⟨g1998, 1, none⟩ = false := blk_fz (HS.out.at5) 1; have hc2005 : w1999.cell? ⟨g1998, 2, none⟩ = some (.int .i64 0) := blk_cellv (HS.out.at5) 2 rfl; have hz2006 : w1999.frozen? ⟨g1998, 2, none⟩ = false := blk_fz (HS.out.at5) 2) | ((with_reducible refine gate_store (t := 134) (p := 9) rfl ?_); refine store_event (w1 := (World.setCell (World.setCell (World.setCell w1999 ⟨g1998, 0, none⟩ (.int .i64 t1995.1)) ⟨g1998, 1, none⟩ (.int .i64 t1995.2.1)) ⟨g1998, 2, none⟩ (.int .i64 t1995.2.2.1))) rfl (t := 134) (p := 9) rfl rfl ?hr ?_; (case hr => first | (go_simp; done) | (go_simp; rfl)); intro w2007 hst; clear hc2001 hz2002 hc2003 hz2004 hc2005 hz2006; replace HS : Aside0 (Sep FF w [b13 g1682 g1684 a1692 a1693 a1694 a1695, b12 g1684 A1687 l1686.length n1689 a1691, r11 A1687 l1686.length n1689 l1686, b14 g1699 g1682, b6 g1701 a1702, b1 g1998 t1995.1 t1995.2.1 t1995.2.2.1] w2007) := ⟨by rw [hst]; exact HS.out.setAll (l1 := [b13 g1682 g1684 a1692 a1693 a1694 a1695, b12 g1684 A1687 l1686.length n1689 a1691, r11 A1687 l1686.length n1689 l1686, b14 g1699 g1682, b6 g1701 a1702]) (l2 := []) [.int .i64 t1995.1, .int .i64 t1995.2.1, .int .i64 t1995.2.2.1] rfl⟩; clear hst))
      obtain ⟨t2010, HA2011, H⟩ := bind_some H
      refine (ground_Ground_Conf.calls l1686 a1691 a1692 a1693 a1694 a1695 g1682 g1684 A1687 l1686.length n1689 t2010 _ ⟨HS.out.begin⟩ HA2011).mono ?_
      rintro e_ w2012 ⟨rfl, hS⟩
      replace HS : Aside0 (Sep FF w [b13 g1682 g1684 a1692 a1693 a1694 a1695, b12 g1684 A1687 l1686.length n1689 a1691, r11 A1687 l1686.length n1689 l1686, b14 g1699 g1682, b6 g1701 a1702, b1 g1998 t1995.1 t1995.2.1 t1995.2.2.1] w2012) := ⟨HS.out.call hS⟩
      clear hS
      by_cases c2014 : a1697 ≥ t2010.1
      · have H := if_yes c2014 H
        have c2014b0 : decide (t2010.1 ≤ a1697) = true := decide_eq_true c2014
        clear c2014
        have fl2013 : ∀ w, (Instr.field 49 (.agg #[.int .i64 t2010.1, .int .i64 t2010.2.1, .int .i64 t2010.2.2.1, .int .i64 t2010.2.2.2]) 0).run Try.prog w = .ok (.int .i64 t2010.1) w := fun _ => by kernel_rfl
        replace HS : Aside0 (Sep FF w [b13 g1682 g1684 a1692 a1693 a1694 a1695, b12 g1684 A1687 l1686.length n1689 a1691, r11 A1687 l1686.length n1689 l1686, b14 g1699 g1682, b6 g1701 a1702] w2012) := ⟨HS.out.sub (.cons_cons _ (.cons_cons _ (.cons_cons _ (.cons_cons _ (.cons_cons _ (.cons _ .slnil))))))⟩
        go_wp2_with fail
        clear fl2013
        go_ret
        rw [← some_eq H]
        exact ⟨(by first | rfl | (simp [IntKind.wrap_u32]; done)), HS.out⟩
      · have H := if_no c2014 H
        have c2014b0 : decide (t2010.1 ≤ a1697) = false := decide_eq_false c2014
        clear c2014
        have fl2013 : ∀ w, (Instr.field 49 (.agg #[.int .i64 t2010.1, .int .i64 t2010.2.1, .int .i64 t2010.2.2.1, .int .i64 t2010.2.2.2]) 0).run Try.prog w = .ok (.int .i64 t2010.1) w := fun _ => by kernel_rfl
        have hc2015 : w2012.cell? ⟨g1998, 2, none⟩ = some (.int .i64 t1995.2.2.1) := blk_cellv (HS.out.at5) 2 rfl
        go_wp2_with fail
        clear fl2013 hc2015
        obtain ⟨t2016, HA2017, H⟩ := bind_some H
        refine (ground_Ground_Reg.calls l1686 a1691 a1692 a1693 a1694 a1695 t1995.2.2.1 g1682 g1684 A1687 l1686.length n1689 t2016 _ ⟨HS.out.begin⟩ HA2017).mono ?_
        rintro e_ w2018 ⟨rfl, hS⟩
        replace HS : Aside0 (Sep FF w [b13 g1682 g1684 a1692 a1693 a1694 a1695, b12 g1684 A1687 l1686.length n1689 t2016.2, r11 A1687 l1686.length n1689 l1686, b14 g1699 g1682, b6 g1701 a1702, b1 g1998 t1995.1 t1995.2.1 t1995.2.2.1] w2018) := ⟨HS.out.call hS⟩
        clear hS
        have hc2019 : w2018.cell? ⟨g1998, 0, none⟩ = some (.int .i64 t1995.1) := blk_cellv (HS.out.at5) 0 rfl
        have hc2020 : w2018.cell? ⟨g1998, 1, none⟩ = some (.int .i64 t1995.2.1) := blk_cellv (HS.out.at5) 1 rfl
        have hc2021 : w2018.cell? ⟨g1998, 2, none⟩ = some (.int .i64 t1995.2.2.1) := blk_cellv (HS.out.at5) 2 rfl
        go_wp2_with fail
        clear hc2019 hc2020 hc2021
        replace HS : Aside0 (Sep FF w [b6 g1701 a1702, b13 g1682 g1684 a1692 a1693 a1694 a1695, b12 g1684 A1687 l1686.length n1689 t2016.2, r11 A1687 l1686.length n1689 l1686, b14 g1699 g1682, b1 g1998 t1995.1 t1995.2.1 t1995.2.2.1] w2018) := ⟨HS.out.front 4 (by simp)⟩
        replace HS : Aside0 (Sep FF w [r11 A1687 l1686.length n1689 l1686, b6 g1701 a1702, b13 g1682 g1684 a1692 a1693 a1694 a1695, b12 g1684 A1687 l1686.length n1689 t2016.2, b14 g1699 g1682, b1 g1998 t1995.1 t1995.2.1 t1995.2.2.1] w2018) := ⟨HS.out.front 3 (by simp)⟩
        replace HS : Aside0 (Sep FF w [b12 g1684 A1687 l1686.length n1689 t2016.2, r11 A1687 l1686.length n1689 l1686, b6 g1701 a1702, b13 g1682 g1684 a1692 a1693 a1694 a1695, b14 g1699 g1682, b1 g1998 t1995.1 t1995.2.1 t1995.2.2.1] w2018) := ⟨HS.out.front 3 (by simp)⟩
        replace HS : Aside0 (Sep FF w [b13 g1682 g1684 a1692 a1693 a1694 a1695, b12 g1684 A1687 l1686.length n1689 t2016.2, r11 A1687 l1686.length n1689 l1686, b6 g1701 a1702, b14 g1699 g1682, b1 g1998 t1995.1 t1995.2.1 t1995.2.2.1] w2018) := ⟨HS.out.front 3 (by simp)⟩
        replace HS : Aside0 (Sep FF w [b14 g1699 g1682, b13 g1682 g1684 a1692 a1693 a1694 a1695, b12 g1684 A1687 l1686.length n1689 t2016.2, r11 A1687 l1686.length n1689 l1686, b6 g1701 a1702, b1 g1998 t1995.1 t1995.2.1 t1995.2.2.1] w2018) := ⟨HS.out.front 4 (by simp)⟩
        obtain ⟨t2022, HA2023, H⟩ := bind_some H
        refine (chain_Add_1.calls t1995.1 t1995.2.1 t1995.2.2.1 (wrap64 (a1697 + 1)) t2016.1 l1686 t2016.2 a1692 a1693 a1694 a1695 a1702 g1699 g1682 g1684 A1687 l1686.length n1689 g1701 t2022 _ ⟨HS.out.begin⟩ HA2023).mono ?_
        rintro e_ w2024 ⟨rfl, hS⟩
        replace HS : Aside0 (Sep FF w [b14 g1699 g1682, b13 g1682 g1684 a1692 a1693 a1694 a1695, b12 g1684 A1687 l1686.length n1689 t2022.1, r11 A1687 l1686.length n1689 t2022.2, b6 g1701 a1702, b1 g1998 t1995.1 t1995.2.1 t1995.2.2.1] w2024) := ⟨HS.out.call hS⟩
        clear hS
        have hc2025 : w2024.cell? ⟨g1998, 2, none⟩ = some (.int .i64 t1995.2.2.1) := blk_cellv (HS.out.at5) 2 rfl
        go_wp2_with fail
        clear hc2025
        replace HS : Aside0 (Sep FF w [r11 A1687 l1686.length n1689 t2022.2, b14 g1699 g1682, b13 g1682 g1684 a1692 a1693 a1694 a1695, b12 g1684 A1687 l1686.length n1689 t2022.1, b6 g1701 a1702, b1 g1998 t1995.1 t1995.2.1 t1995.2.2.1] w2024) := ⟨HS.out.front 3 (by simp)⟩
        replace HS : Aside0 (Sep FF w [b12 g1684 A1687 l1686.length n1689 t2022.1, r11 A1687 l1686.length n1689 t2022.2, b14 g1699 g1682, b13 g1682 g1684 a1692 a1693 a1694 a1695, b6 g1701 a1702, b1 g1998 t1995.1 t1995.2.1 t1995.2.2.1] w2024) := ⟨HS.out.front 3 (by simp)⟩
        replace HS : Aside0 (Sep FF w [b13 g1682 g1684 a1692 a1693 a1694 a1695, b12 g1684 A1687 l1686.length n1689 t2022.1, r11 A1687 l1686.length n1689 t2022.2, b14 g1699 g1682, b6 g1701 a1702, b1 g1998 t1995.1 t1995.2.1 t1995.2.2.1] w2024) := ⟨HS.out.front 3 (by simp)⟩
        obtain ⟨t2026, HA2027, H⟩ := bind_some H
        refine (ground_Ground_SetReg.calls t2022.2 t2022.1 a1692 a1693 a1694 a1695 t1995.2.2.1 (wrap64 (t2016.1 + 1)) g1682 g1684 A1687 l1686.length n1689 t2026 _ ⟨HS.out.begin⟩ HA2027).mono ?_
        rintro e_ w2028 ⟨rfl, hS⟩
        replace HS : Aside0 (Sep FF w [b13 g1682 g1684 a1692 a1693 a1694 a1695, b12 g1684 A1687 l1686.length n1689 t2026.2.1, r11 A1687 l1686.length n1689 t2026.2.2, b14 g1699 g1682, b6 g1701 a1702, b1 g1998 t1995.1 t1995.2.1 t1995.2.2.1] w2028) := ⟨HS.out.call hS⟩
        clear hS
        replace HS : Aside0 (Sep FF w [b13 g1682 g1684 a1692 a1693 a1694 a1695, b12 g1684 A1687 l1686.length n1689 t2026.2.1, r11 A1687 l1686.length n1689 t2026.2.2, b14 g1699 g1682, b6 g1701 a1702] w2028) := ⟨HS.out.sub (.cons_cons _ (.cons_cons _ (.cons_cons _ (.cons_cons _ (.cons_cons _ (.cons _ .slnil))))))⟩
        go_wp2_with fail
        go_ret
        rw [← some_eq H]
        exact ⟨(by first | rfl | (simp [IntKind.wrap_u32]; done)), HS.out⟩
  · have H := if_no c2008 H
    have c2008b0 : t1995.2.2.2 = false := by simpa using c2008
    have c2008b1 : (!t1995.2.2.2) = true := by rw [c2008b0]; rfl
    try rw [c2008b1]
    clear c2008
    go_wp2_with (first | ((with_reducible refine gate_dst (N := 9) rfl ?_); refine box_on ?hg (N := 9) ?hd (cs := #[.int .i64 0, .int .i64 0, .int .i64 0]) (t := 134) ?hr ?_; (case hd => rfl); (case hg => rfl); (case hr => first | (go_simp; done) | (go_simp; rfl)); intro g1998 hg w1999 hbox hb; replace HS : Aside0 (Sep FF w [b13 g1682 g1684 a1692 a1693 a1694 a1695, b12 g1684 A1687 l1686.length n1689 a1691, r11 A1687 l1686.length n1689 l1686, b14 g1699 g1682, b6 g1701 a1702, b1 g1998 0 0 0] w1999) := ⟨HS.out.box hg hbox hb⟩; clear hg hbox hb; have hc2001 : w1999.cell? ⟨g1998, 0, none⟩ = some (.int .i64 0) := blk_cellv (HS.out.at5) 0 rfl; have hz2002 : w1999.frozen? ⟨g1998, 0, none⟩ = false := blk_fz (HS.out.at5) 0; have hc2003 : w1999.cell? ⟨g1998, 1, none⟩ = some (.int .i64 0) := blk_cellv (HS.out.at5) 1 rfl; have hz2004 : w1999.frozen? ⟨g1998, 1, none⟩ = false := blk_fz (HS.out.at5) 1; have hc2005 : w1999.cell? ⟨g1998, 2, none⟩ = some (.int .i64 0) := blk_cellv (HS.out.at5) 2 rfl; have hz2006 : w1999.frozen? ⟨g1998, 2, none⟩ = false := blk_fz (HS.out.at5) 2) | ((with_reducible refine gate_store (t := 134) (p := 9) rfl ?_); refine store_event (w1 := (World.setCell (World.setCell (World.setCell w1999 ⟨g1998, 0, none⟩ (.int .i64 t1995.1)) ⟨g1998, 1, none⟩ (.int .i64 t1995.2.1)) ⟨g1998, 2, none⟩ (.int .i64 t1995.2.2.1))) rfl (t := 134) (p := 9) rfl rfl ?hr ?_; (case hr => first | (go_simp; done) | (go_simp; rfl)); intro w2007 hst; clear hc2001 hz2002 hc2003 hz2004 hc2005 hz2006; replace HS : Aside0 (Sep FF w [b13 g1682 g1684 a1692 a1693 a1694 a1695, b12 g1684 A1687 l1686.length n1689 a1691, r11 A1687 l1686.length n1689 l1686, b14 g1699 g1682, b6 g1701 a1702, b1 g1998 t1995.1 t1995.2.1 t1995.2.2.1] w2007) := ⟨by rw [hst]; exact HS.out.setAll (l1 := [b13 g1682 g1684 a1692 a1693 a1694 a1695, b12 g1684 A1687 l1686.length n1689 a1691, r11 A1687 l1686.length n1689 l1686, b14 g1699 g1682, b6 g1701 a1702]) (l2 := []) [.int .i64 t1995.1, .int .i64 t1995.2.1, .int .i64 t1995.2.2.1] rfl⟩; clear hst; replace HS : Aside0 (Sep FF w [b13 g1682 g1684 a1692 a1693 a1694 a1695, b12 g1684 A1687 l1686.length n1689 a1691, r11 A1687 l1686.length n1689 l1686, b14 g1699 g1682, b6 g1701 a1702] w2007) := ⟨HS.out.sub (.cons_cons _ (.cons_cons _ (.cons_cons _ (.cons_cons _ (.cons_cons _ (.cons _ .slnil))))))⟩))
    go_ret
    rw [← some_eq H]
    exact ⟨(by first | rfl | (simp [IntKind.wrap_u32]; done)), HS.out⟩

set_option maxHeartbeats 30000000 in
set_option maxRecDepth 100000 in
theorem chain_Add.calls (l1661 : List Int) (a1666 : Int) (a1667 : Int) (a1668 : Int) (a1669 : Int) (a1670 : Int) (a1671 : Int) (a1672 : Int) (g1657 : Nat) (g1659 : Nat) (A1662 : Option Addr) (m1663 : Nat) (n1664 : Nat) (r : Bool × Int × List Int) (w : World)   (HS : Aside0 (Sep (fps [b13 g1657 g1659 a1667 a1668 a1669 a1670, b12 g1659 A1662 m1663 n1664 a1666, r11 A1662 m1663 n1664 l1661]) w [b13 g1657 g1659 a1667 a1668 a1669 a1670, b12 g1659 A1662 m1663 n1664 a1666, r11 A1662 m1663 n1664 l1661] w)) (H : Aside0 (chain_Add.f l1661 a1666 a1667 a1668 a1669 a1670 a1671 a1672 = some r)) :
    Calls Try.prog 52 #[.pointer (some ⟨g1657, 0, none⟩), .int .i64 a1671, .int .i64 a1672] w fun e w' => e = .returned (.bool r.1) ∧ Sep (fps [b13 g1657 g1659 a1667 a1668 a1669 a1670, b12 g1659 A1662 m1663 n1664 a1666, r11 A1662 m1663 n1664 l1661]) w [b13 g1657 g1659 a1667 a1668 a1669 a1670, b12 g1659 A1662 m1663 n1664 r.2.1, r11 A1662 m1663 n1664 r.2.2] w' := by
  generalize (fps [b13 g1657 g1659 a1667 a1668 a1669 a1670, b12 g1659 A1662 m1663 n1664 a1666, r11 A1662 m1663 n1664 l1661]) = FF at HS ⊢
  obtain rfl := (row_len (HS.out.at2)).symm
  unfold chain_Add.f at H
  go_enter Try.func52, Try.ntmps52
  go_wp2_with (first | ((with_reducible refine gate_dst (N := 3) rfl ?_); refine box_on ?hg (N := 3) ?hd (cs := #[.pointer (some ⟨g1657, 0, none⟩)]) (t := 50) ?hr ?_; (case hd => rfl); (case hg => rfl); (case hr => first | (go_simp; done) | (go_simp; rfl)); intro g2032 hg w2033 hbox hb; replace HS : Aside0 (Sep FF w [b13 g1657 g1659 a1667 a1668 a1669 a1670, b12 g1659 A1662 l1661.length n1664 a1666, r11 A1662 l1661.length n1664 l1661, b14 g2032 g1657] w2033) := ⟨HS.out.box hg hbox hb⟩; clear hg hbox hb) | ((with_reducible refine gate_dst (N := 5) rfl ?_); refine box_on ?hg (N := 5) ?hd (cs := #[.int .i64 a1672]) (t := 3) ?hr ?_; (case hd => rfl); (case hg => rfl); (case hr => first | (go_simp; done) | (go_simp; rfl)); intro g2035 hg w2036 hbox hb; replace HS : Aside0 (Sep FF w [b13 g1657 g1659 a1667 a1668 a1669 a1670, b12 g1659 A1662 l1661.length n1664 a1666, r11 A1662 l1661.length n1664 l1661, b14 g2032 g1657, b6 g2035 a1672] w2036) := ⟨HS.out.box hg hbox hb⟩; clear hg hbox hb; have hc2038 : w2036.cell? ⟨g2032, 0, none⟩ = some (.pointer (some ⟨g1657, 0, none⟩)) := blk_cellv (HS.out.at3) 0 rfl; have hc2039 : w2036.cell? ⟨g2035, 0, none⟩ = some (.int .i64 a1672) := blk_cellv (HS.out.at4) 0 rfl))
  clear hc2038 hc2039
  obtain ⟨t2040, HA2041, H⟩ := bind_some H
  refine (chain_put_F89.calls l1661 a1666 a1667 a1668 a1669 a1670 a1671 a1672 a1672 g1657 g1659 A1662 l1661.length n1664 g2032 g2035 t2040 _ ⟨HS.out.begin⟩ HA2041).mono ?_
  rintro e_ w2042 ⟨rfl, hS⟩
  replace HS : Aside0 (Sep FF w [b13 g1657 g1659 a1667 a1668 a1669 a1670, b12 g1659 A1662 l1661.length n1664 t2040.2.1, r11 A1662 l1661.length n1664 t2040.2.2, b14 g2032 g1657, b6 g2035 a1672] w2042) := ⟨HS.out.call hS⟩
  clear hS
  replace HS : Aside0 (Sep FF w [b13 g1657 g1659 a1667 a1668 a1669 a1670, b12 g1659 A1662 l1661.length n1664 t2040.2.1, r11 A1662 l1661.length n1664 t2040.2.2] w2042) := ⟨HS.out.sub (.cons_cons _ (.cons_cons _ (.cons_cons _ (.cons _ (.cons _ .slnil)))))⟩
  go_wp2_with fail
  go_ret
  rw [← some_eq H]
  exact ⟨(by first | rfl | (simp [IntKind.wrap_u32]; done)), HS.out⟩

set_option maxHeartbeats 30000000 in
set_option maxRecDepth 100000 in
theorem pool_Open.calls (k : Nat) (l1369 : List Int) (a1374 : Int) (a1375 : Int) (a1376 : Int) (a1377 : Int) (a1378 : Int) (g1365 : Nat) (g1367 : Nat) (A1370 : Option Addr) (m1371 : Nat) (n1372 : Nat) (r : Bool × Int × List Int) (w : World)   (HS : Aside0 (Sep (fps [b13 g1365 g1367 a1375 a1376 a1377 a1378, b12 g1367 A1370 m1371 n1372 a1374, r11 A1370 m1371 n1372 l1369]) w [b13 g1365 g1367 a1375 a1376 a1377 a1378, b12 g1367 A1370 m1371 n1372 a1374, r11 A1370 m1371 n1372 l1369] w)) (H : Aside0 (pool_Open.f k l1369 a1374 a1375 a1376 a1377 a1378 = some r)) :
    Calls Try.prog 61 #[.pointer (some ⟨g1365, 0, none⟩)] w fun e w' => e = .returned (.bool r.1) ∧ Sep (fps [b13 g1365 g1367 a1375 a1376 a1377 a1378, b12 g1367 A1370 m1371 n1372 a1374, r11 A1370 m1371 n1372 l1369]) w [b13 g1365 g1367 a1375 a1376 a1377 a1378, b12 g1367 A1370 m1371 n1372 r.2.1, r11 A1370 m1371 n1372 r.2.2] w' := by
  generalize (fps [b13 g1365 g1367 a1375 a1376 a1377 a1378, b12 g1367 A1370 m1371 n1372 a1374, r11 A1370 m1371 n1372 l1369]) = FF at HS ⊢
  obtain rfl := (row_len (HS.out.at2)).symm
  unfold pool_Open.f at H
  go_enter Try.func61, Try.ntmps61
  go_wp2_with fail
  obtain ⟨t2056, HA2057, H⟩ := bind_some H
  refine (chain_Len.calls l1369 a1374 a1375 a1376 a1377 a1378 0 g1365 g1367 A1370 l1369.length n1372 t2056 _ ⟨HS.out.begin⟩ HA2057).mono ?_
  rintro e_ w2058 ⟨rfl, hS⟩
  replace HS : Aside0 (Sep FF w [b13 g1365 g1367 a1375 a1376 a1377 a1378, b12 g1367 A1370 l1369.length n1372 t2056.2, r11 A1370 l1369.length n1372 l1369] w2058) := ⟨HS.out.call hS⟩
  clear hS
  by_cases c2059 : t2056.1 > 0
  · have H := if_yes c2059 H
    have c2059b0 : decide (0 < t2056.1) = true := decide_eq_true c2059
    clear c2059
    go_wp2_with fail
    go_ret
    rw [← some_eq H]
    exact ⟨(by first | rfl | (simp [IntKind.wrap_u32]; done)), HS.out⟩
  · have H := if_no c2059 H
    have c2059b0 : decide (0 < t2056.1) = false := decide_eq_false c2059
    clear c2059
    go_wp2_with fail
    obtain ⟨t2060, HA2061, H⟩ := bind_some H
    refine (ground_Ground_Conf.calls l1369 t2056.2 a1375 a1376 a1377 a1378 g1365 g1367 A1370 l1369.length n1372 t2060 _ ⟨HS.out.begin⟩ HA2061).mono ?_
    rintro e_ w2062 ⟨rfl, hS⟩
    replace HS : Aside0 (Sep FF w [b13 g1365 g1367 a1375 a1376 a1377 a1378, b12 g1367 A1370 l1369.length n1372 t2056.2, r11 A1370 l1369.length n1372 l1369] w2062) := ⟨HS.out.call hS⟩
    clear hS
    have fl2063 : ∀ w, (Instr.field 49 (.agg #[.int .i64 t2060.1, .int .i64 t2060.2.1, .int .i64 t2060.2.2.1, .int .i64 t2060.2.2.2]) 0).run Try.prog w = .ok (.int .i64 t2060.1) w := fun _ => by kernel_rfl
    go_wp2_with fail
    clear fl2063
    obtain ⟨o2074, AL2075, H⟩ := bind_some H
    go_loopg [14] k (fun kq v14 wc => ∃ (x2078 : Int) (x2079 : List Int) (x2080 : Int), v14 = .int .i64 x2078 ∧ Aside0 (pool_Open.lo0 kq a1375 a1376 a1377 a1378 t2060 x2078 x2079 x2080 = some o2074) ∧ Aside0 (Sep FF w [b13 g1365 g1367 a1375 a1376 a1377 a1378, b12 g1367 A1370 l1369.length n1372 x2080, r11 A1370 l1369.length n1372 x2079] wc))
    case atStart => exact ⟨(0), (l1369), (t2056.2), (by first | rfl | (simp [IntKind.wrap_u32]; done)), AL2075, ⟨HS.out⟩⟩
    case round =>
      clear AL2075 HS
      obtain ⟨x2078, x2079, x2080, rfl, AL2075, HS⟩ := hrel
      obtain ⟨w2076, rfl⟩ : ∃ x : World, x = wr := ⟨_, rfl⟩
      cases gk with
      | zero => exact absurd AL2075.out (by simp [pool_Open.lo0])
      | succ k2077 =>
        have AL0 := AL2075.out
        rw [pool_Open.lo0] at AL0
        clear AL2075
        have AL2075 := Aside0.mk AL0
        clear AL0
        by_cases c2081 : x2078 < t2060.1
        · have AL2075 := if_yes c2081 AL2075
          have c2081b0 : decide (x2078 < t2060.1) = true := decide_eq_true c2081
          clear c2081
          go_wp2_with fail
          obtain ⟨t2071, HA2082, AL2075⟩ := bind_some AL2075
          refine (chain_Add.calls x2079 x2080 a1375 a1376 a1377 a1378 0 x2078 g1365 g1367 A1370 l1369.length n1372 t2071 _ ⟨HS.out.begin⟩ HA2082).mono ?_
          rintro e_ w2083 ⟨rfl, hS⟩
          replace HS : Aside0 (Sep FF w [b13 g1365 g1367 a1375 a1376 a1377 a1378, b12 g1367 A1370 l1369.length n1372 t2071.2.1, r11 A1370 l1369.length n1372 t2071.2.2] w2083) := ⟨HS.out.call hS⟩
          clear hS
          go_wp2_with fail
          go_roundg k2077
          case measure => exact Nat.lt_succ_self _
          case rel => exact ⟨(wrap64 (x2078 + 1)), (t2071.2.2), (t2071.2.1), (by first | rfl | (simp [IntKind.wrap_u32]; done)), Aside0.mk AL2075.out, ⟨HS.out⟩⟩
        · have AL2075 := if_no c2081 AL2075
          have c2081b0 : decide (x2078 < t2060.1) = false := decide_eq_false c2081
          clear c2081
          have ho := some_eq AL2075
          subst ho
          clear AL2075
          go_wp2_with fail
          go_ret
          rw [← some_eq H]
          exact ⟨(by first | rfl | (simp [IntKind.wrap_u32]; done)), HS.out⟩

set_option maxHeartbeats 30000000 in
set_option maxRecDepth 100000 in
theorem pool_Len.calls (l2098 : List Int) (a2103 : Int) (a2104 : Int) (a2105 : Int) (a2106 : Int) (a2107 : Int) (g2094 : Nat) (g2096 : Nat) (A2099 : Option Addr) (m2100 : Nat) (n2101 : Nat) (r : Int × Int) (w : World)   (HS : Aside0 (Sep (fps [b13 g2094 g2096 a2104 a2105 a2106 a2107, b12 g2096 A2099 m2100 n2101 a2103, r11 A2099 m2100 n2101 l2098]) w [b13 g2094 g2096 a2104 a2105 a2106 a2107, b12 g2096 A2099 m2100 n2101 a2103, r11 A2099 m2100 n2101 l2098] w)) (H : Aside0 (pool_Len.f l2098 a2103 a2104 a2105 a2106 a2107 = some r)) :
    Calls Try.prog 65 #[.pointer (some ⟨g2094, 0, none⟩)] w fun e w' => e = .returned (.int .i64 r.1) ∧ Sep (fps [b13 g2094 g2096 a2104 a2105 a2106 a2107, b12 g2096 A2099 m2100 n2101 a2103, r11 A2099 m2100 n2101 l2098]) w [b13 g2094 g2096 a2104 a2105 a2106 a2107, b12 g2096 A2099 m2100 n2101 r.2, r11 A2099 m2100 n2101 l2098] w' := by
  generalize (fps [b13 g2094 g2096 a2104 a2105 a2106 a2107, b12 g2096 A2099 m2100 n2101 a2103, r11 A2099 m2100 n2101 l2098]) = FF at HS ⊢
  obtain rfl := (row_len (HS.out.at2)).symm
  unfold pool_Len.f at H
  go_enter Try.func65, Try.ntmps65
  go_wp2_with fail
  obtain ⟨t2111, HA2112, H⟩ := bind_some H
  refine (chain_Len.calls l2098 a2103 a2104 a2105 a2106 a2107 0 g2094 g2096 A2099 l2098.length n2101 t2111 _ ⟨HS.out.begin⟩ HA2112).mono ?_
  rintro e_ w2113 ⟨rfl, hS⟩
  replace HS : Aside0 (Sep FF w [b13 g2094 g2096 a2104 a2105 a2106 a2107, b12 g2096 A2099 l2098.length n2101 t2111.2, r11 A2099 l2098.length n2101 l2098] w2113) := ⟨HS.out.call hS⟩
  clear hS
  go_wp2_with fail
  go_ret
  rw [← some_eq H]
  exact ⟨(by first | rfl | (simp [IntKind.wrap_u32]; done)), HS.out⟩

set_option maxHeartbeats 30000000 in
set_option maxRecDepth 100000 in
theorem ground_Ground_Word.calls (l2139 : List Int) (a2144 : Int) (a2145 : Int) (a2146 : Int) (a2147 : Int) (a2148 : Int) (a2149 : Int) (a2150 : Int) (g2135 : Nat) (g2137 : Nat) (A2140 : Option Addr) (m2141 : Nat) (n2142 : Nat) (r : Int × Int) (w : World)   (HS : Aside0 (Sep (fps [b13 g2135 g2137 a2145 a2146 a2147 a2148, b12 g2137 A2140 m2141 n2142 a2144, r11 A2140 m2141 n2142 l2139]) w [b13 g2135 g2137 a2145 a2146 a2147 a2148, b12 g2137 A2140 m2141 n2142 a2144, r11 A2140 m2141 n2142 l2139] w)) (H : Aside0 (ground_Ground_Word.f l2139 a2144 a2145 a2146 a2147 a2148 a2149 a2150 = some r)) :
    Calls Try.prog 45 #[.pointer (some ⟨g2135, 0, none⟩), .int .i64 a2149, .int .i64 a2150] w fun e w' => e = .returned (.int .u32 r.1) ∧ Sep (fps [b13 g2135 g2137 a2145 a2146 a2147 a2148, b12 g2137 A2140 m2141 n2142 a2144, r11 A2140 m2141 n2142 l2139]) w [b13 g2135 g2137 a2145 a2146 a2147 a2148, b12 g2137 A2140 m2141 n2142 r.2, r11 A2140 m2141 n2142 l2139] w' := by
  generalize (fps [b13 g2135 g2137 a2145 a2146 a2147 a2148, b12 g2137 A2140 m2141 n2142 a2144, r11 A2140 m2141 n2142 l2139]) = FF at HS ⊢
  obtain rfl := (row_len (HS.out.at2)).symm
  unfold ground_Ground_Word.f at H
  go_enter Try.func45, Try.ntmps45
  go_wp2_with fail
  obtain ⟨t2160, HA2161, H⟩ := bind_some H
  refine (ground_Ground_all.calls l2139 a2144 a2145 a2146 a2147 a2148 g2135 g2137 A2140 l2139.length n2142 t2160 _ ⟨HS.out.begin⟩ HA2161).mono ?_
  rintro e_ w2162 ⟨rfl, hS⟩
  replace HS : Aside0 (Sep FF w [b13 g2135 g2137 a2145 a2146 a2147 a2148, b12 g2137 A2140 l2139.length n2142 a2144, r11 A2140 l2139.length n2142 l2139] w2162) := ⟨HS.out.call hS⟩
  clear hS
  go_wp2_with fail
  obtain ⟨t2163, HA2164, H⟩ := bind_some H
  refine (ground_Ground_word.calls l2139 a2144 a2145 a2146 a2147 a2148 a2149 a2150 g2135 g2137 A2140 l2139.length n2142 t2163 _ ⟨HS.out.begin⟩ HA2164).mono ?_
  rintro e_ w2165 ⟨rfl, hS⟩
  replace HS : Aside0 (Sep FF w [b13 g2135 g2137 a2145 a2146 a2147 a2148, b12 g2137 A2140 l2139.length n2142 a2144, r11 A2140 l2139.length n2142 l2139] w2165) := ⟨HS.out.call hS⟩
  clear hS
  go_wp2_with fail
  replace HS : Aside0 (Sep FF w [r11 A2140 l2139.length n2142 l2139, b13 g2135 g2137 a2145 a2146 a2147 a2148, b12 g2137 A2140 l2139.length n2142 a2144] w2165) := ⟨HS.out.front 2 (by simp)⟩
  replace HS : Aside0 (Sep FF w [b12 g2137 A2140 l2139.length n2142 a2144, r11 A2140 l2139.length n2142 l2139, b13 g2135 g2137 a2145 a2146 a2147 a2148] w2165) := ⟨HS.out.front 2 (by simp)⟩
  obtain ⟨t2166, HA2167, H⟩ := bind_some H
  refine (store_Store_Get.calls l2139 a2144 t2163 g2137 A2140 l2139.length n2142 t2166 _ ⟨HS.out.begin⟩ HA2167).mono ?_
  rintro e_ w2168 ⟨rfl, hS⟩
  replace HS : Aside0 (Sep FF w [b12 g2137 A2140 l2139.length n2142 t2166.2, r11 A2140 l2139.length n2142 l2139, b13 g2135 g2137 a2145 a2146 a2147 a2148] w2168) := ⟨HS.out.call hS⟩
  clear hS
  go_wp2_with fail
  go_ret
  rw [← some_eq H]
  exact ⟨(by first | rfl | (simp [IntKind.wrap_u32]; done)), ((((HS.out).front 1 (by simp)).front 1 (by simp)).front 2 (by simp)).keep (l := [b13 g2135 g2137 a2145 a2146 a2147 a2148, b12 g2137 A2140 l2139.length n2142 t2166.2, r11 A2140 l2139.length n2142 l2139]) (rest := [])⟩

set_option maxHeartbeats 30000000 in
set_option maxRecDepth 100000 in
theorem chain_Push_1_1.calls (a2262 : Int) (a2263 : Int) (a2264 : Int) (a2265 : Int) (a2266 : Int) (l2274 : List Int) (a2279 : Int) (a2280 : Int) (a2281 : Int) (a2282 : Int) (a2283 : Int) (a2286 : Int) (g2268 : Nat) (g2270 : Nat) (g2272 : Nat) (A2275 : Option Addr) (m2276 : Nat) (n2277 : Nat) (g2285 : Nat) (r : Int × List Int) (w : World)   (HS : Aside0 (Sep (fps [b14 g2268 g2270, b13 g2270 g2272 a2280 a2281 a2282 a2283, b12 g2272 A2275 m2276 n2277 a2279, r11 A2275 m2276 n2277 l2274, b6 g2285 a2286]) w [b14 g2268 g2270, b13 g2270 g2272 a2280 a2281 a2282 a2283, b12 g2272 A2275 m2276 n2277 a2279, r11 A2275 m2276 n2277 l2274, b6 g2285 a2286] w)) (H : Aside0 (chain_Push_1_1.f a2262 a2263 a2264 a2265 a2266 l2274 a2279 a2280 a2281 a2282 a2283 a2286 = some r)) :
    Calls Try.prog 90 #[.agg #[.int .i64 a2262, .int .i64 a2263, .int .i64 a2264], .int .i64 a2265, .int .i64 a2266, .pointer (some ⟨g2268, 0, none⟩), .pointer (some ⟨g2285, 0, none⟩)] w fun e w' => e = .returned (.tuple #[]) ∧ Sep (fps [b14 g2268 g2270, b13 g2270 g2272 a2280 a2281 a2282 a2283, b12 g2272 A2275 m2276 n2277 a2279, r11 A2275 m2276 n2277 l2274, b6 g2285 a2286]) w [b14 g2268 g2270, b13 g2270 g2272 a2280 a2281 a2282 a2283, b12 g2272 A2275 m2276 n2277 r.1, r11 A2275 m2276 n2277 r.2, b6 g2285 a2286] w' := by
  generalize (fps [b14 g2268 g2270, b13 g2270 g2272 a2280 a2281 a2282 a2283, b12 g2272 A2275 m2276 n2277 a2279, r11 A2275 m2276 n2277 l2274, b6 g2285 a2286]) = FF at HS ⊢
  obtain rfl := (row_len (HS.out.at3)).symm
  unfold chain_Push_1_1.f at H
  go_enter Try.func90, Try.ntmps90
  go_wp2_with (first | ((with_reducible refine gate_dst (N := 5) rfl ?_); refine box_on ?hg (N := 5) ?hd (cs := #[.int .i64 a2262, .int .i64 a2263, .int .i64 a2264]) (t := 134) ?hr ?_; (case hd => rfl); (case hg => rfl); (case hr => first | (go_simp; done) | (go_simp; rfl)); intro g2309 hg w2310 hbox hb; replace HS : Aside0 (Sep FF w [b14 g2268 g2270, b13 g2270 g2272 a2280 a2281 a2282 a2283, b12 g2272 A2275 l2274.length n2277 a2279, r11 A2275 l2274.length n2277 l2274, b6 g2285 a2286, b1 g2309 a2262 a2263 a2264] w2310) := ⟨HS.out.box hg hbox hb⟩; clear hg hbox hb))
  refine start_ (n := 8) (S := (fun w' => w'.cell? ⟨g2268, 0, none⟩ = some (.pointer (some ⟨g2270, 0, none⟩)) ∧ w'.cell? ⟨g2285, 0, none⟩ = some (.int .i64 a2286) ∧ w'.cell? ⟨g2309, 0, none⟩ = some (.int .i64 a2262))) (ds := []) #[false, false, false, false, false, false, false, false] (by kernel_rfl) rfl rfl (⟨blk_cellv ((HS.out.drew).at0) 0 rfl, blk_cellv ((HS.out.drew).at4) 0 rfl, blk_cellv ((HS.out.drew).at5) 0 rfl⟩) (fun hHeld => ?_)
  have HS_ := Aside0.mk HS.out.drew
  clear HS
  generalize World.drew _ = w2313 at HS_ hHeld ⊢
  have HS := HS_
  clear HS_
  refine pure_ (i := 3) (N := some 11) (v := ?_) (a' := ?_) #[false, false, false, true, false, false, false, false] rfl rfl (by kernel_rfl) (fun _ _ _ h => h) (Or.inl ⟨by rfl, ?_⟩) ?_ ?_
  rotate_left
  · intro w'
    go_simp
    with_reducible rfl
  rotate_left
  · simp only [Act.put, List.setIfInBounds_toArray, List.set_cons_zero, List.set_cons_succ, i64_w, i32_w]
    rfl
  refine take_ (i := 0) (N := some 8) (v := ?_) (a' := ?_) #[true, false, false, true, false, false, false, false] rfl rfl (by kernel_rfl) (fun _ _ _ h => h) (Or.inl ⟨by rfl, ?_⟩) hHeld ?_ ?_
  rotate_left
  · rintro w' hS'
    obtain ⟨s0, s1, s2⟩ := hS'
    go_simp
    with_reducible rfl
  rotate_left
  · simp only [Act.put, List.setIfInBounds_toArray, List.set_cons_zero, List.set_cons_succ, i64_w, i32_w]
    rfl
  refine take_ (i := 1) (N := some 9) (v := ?_) (a' := ?_) #[true, true, false, true, false, false, false, false] rfl rfl (by kernel_rfl) (fun _ _ _ h => h) (Or.inl ⟨by rfl, ?_⟩) hHeld ?_ ?_
  rotate_left
  · rintro w' hS'
    obtain ⟨s0, s1, s2⟩ := hS'
    go_simp
    with_reducible rfl
  rotate_left
  · simp only [Act.put, List.setIfInBounds_toArray, List.set_cons_zero, List.set_cons_succ, i64_w, i32_w]
    rfl
  refine take_ (i := 2) (N := some 10) (v := ?_) (a' := ?_) #[true, true, true, true, false, false, false, false] rfl rfl (by kernel_rfl) (fun _ _ _ h => h) (Or.inl ⟨by rfl, ?_⟩) hHeld ?_ ?_
  rotate_left
  · rintro w' hS'
    obtain ⟨s0, s1, s2⟩ := hS'
    go_simp
    with_reducible rfl
  rotate_left
  · simp only [Act.put, List.setIfInBounds_toArray, List.set_cons_zero, List.set_cons_succ, i64_w, i32_w]
    rfl
  refine take_ (i := 4) (N := some 12) (v := ?_) (a' := ?_) #[true, true, true, true, true, false, false, false] rfl rfl (by kernel_rfl) (fun _ _ _ h => h) (Or.inl ⟨by rfl, ?_⟩) hHeld ?_ ?_
  rotate_left
  · rintro w' hS'
    obtain ⟨s0, s1, s2⟩ := hS'
    go_simp
    with_reducible rfl
  rotate_left
  · simp only [Act.put, List.setIfInBounds_toArray, List.set_cons_zero, List.set_cons_succ, i64_w, i32_w]
    rfl
  refine one_ (i := 5) (N := some 13) #[true, true, true, true, true, true, false, false] rfl rfl (by kernel_rfl) (by decide) (fun K hK => ?_)
  replace HS : Aside0 (Sep FF w [r11 A2275 l2274.length n2277 l2274, b14 g2268 g2270, b13 g2270 g2272 a2280 a2281 a2282 a2283, b12 g2272 A2275 l2274.length n2277 a2279, b6 g2285 a2286, b1 g2309 a2262 a2263 a2264] w2313) := ⟨HS.out.front 3 (by simp)⟩
  replace HS : Aside0 (Sep FF w [b12 g2272 A2275 l2274.length n2277 a2279, r11 A2275 l2274.length n2277 l2274, b14 g2268 g2270, b13 g2270 g2272 a2280 a2281 a2282 a2283, b6 g2285 a2286, b1 g2309 a2262 a2263 a2264] w2313) := ⟨HS.out.front 3 (by simp)⟩
  replace HS : Aside0 (Sep FF w [b13 g2270 g2272 a2280 a2281 a2282 a2283, b12 g2272 A2275 l2274.length n2277 a2279, r11 A2275 l2274.length n2277 l2274, b14 g2268 g2270, b6 g2285 a2286, b1 g2309 a2262 a2263 a2264] w2313) := ⟨HS.out.front 3 (by simp)⟩
  obtain ⟨t2314, HA2315, H⟩ := bind_some H
  refine goes_ Try.func36 (by kernel_rfl) rfl #[.pointer (some ⟨g2270, 0, none⟩), .int .i64 a2262] (by rfl) rfl rfl (by (try simp only [List.map_toArray, List.map_cons, List.map_nil]); first | done | rfl) ?_
  refine (ground_Ground_Reg.calls l2274 a2279 a2280 a2281 a2282 a2283 a2262 g2270 g2272 A2275 l2274.length n2277 t2314 _ ⟨HS.out.begin⟩ HA2315).mono ?_
  rintro e_ w2316 ⟨rfl, hS⟩
  replace HS : Aside0 (Sep FF w [b13 g2270 g2272 a2280 a2281 a2282 a2283, b12 g2272 A2275 l2274.length n2277 t2314.2, r11 A2275 l2274.length n2277 l2274, b14 g2268 g2270, b6 g2285 a2286, b1 g2309 a2262 a2263 a2264] w2316) := ⟨HS.out.call hS⟩
  clear hS
  refine ⟨_, rfl, ?_⟩
  refine hK.out _ _ (⟨blk_cellv (HS.out.at3) 0 rfl, blk_cellv (HS.out.at4) 0 rfl, blk_cellv (HS.out.at5) 0 rfl⟩) (fun hHeld => ?_)
  clear hK K
  refine norm_ (a' := ?_) ?_ ?_
  rotate_left
  · show Act.put _ (some 13) _ = _
    simp only [Act.put, List.setIfInBounds_toArray, List.set_cons_zero, List.set_cons_succ, i64_w, i32_w]
    rfl
  refine pure_ (i := 6) (N := some 14) (v := ?_) (a' := ?_) #[true, true, true, true, true, true, true, false] rfl rfl (by kernel_rfl) (fun _ _ _ h => h) (Or.inl ⟨by rfl, ?_⟩) ?_ ?_
  rotate_left
  · intro w'
    go_simp
    with_reducible rfl
  rotate_left
  · simp only [Act.put, List.setIfInBounds_toArray, List.set_cons_zero, List.set_cons_succ, i64_w, i32_w]
    rfl
  refine one_ (i := 7) (N := some 15) #[true, true, true, true, true, true, true, true] rfl rfl (by kernel_rfl) (by decide) (fun K hK => ?_)
  obtain ⟨t2317, HA2318, H⟩ := bind_some H
  refine goes_ Try.func46 (by kernel_rfl) rfl #[.pointer (some ⟨g2270, 0, none⟩), .int .i64 a2286, .int .i64 5, .int .u32 ((t2314.1) % 4294967296)] (by rfl) rfl rfl (by (try simp only [List.map_toArray, List.map_cons, List.map_nil]); first | done | rfl) ?_
  refine (ground_Ground_SetWord.calls l2274 t2314.2 a2280 a2281 a2282 a2283 a2286 5 ((t2314.1) % 4294967296) g2270 g2272 A2275 l2274.length n2277 t2317 _ ⟨HS.out.begin⟩ HA2318).mono ?_
  rintro e_ w2319 ⟨rfl, hS⟩
  replace HS : Aside0 (Sep FF w [b13 g2270 g2272 a2280 a2281 a2282 a2283, b12 g2272 A2275 l2274.length n2277 t2317.2.1, r11 A2275 l2274.length n2277 t2317.2.2, b14 g2268 g2270, b6 g2285 a2286, b1 g2309 a2262 a2263 a2264] w2319) := ⟨HS.out.call hS⟩
  clear hS
  refine ⟨_, rfl, ?_⟩
  refine hK.out _ _ (⟨blk_cellv (HS.out.at3) 0 rfl, blk_cellv (HS.out.at4) 0 rfl, blk_cellv (HS.out.at5) 0 rfl⟩) (fun hHeld => ?_)
  clear hK K
  refine norm_ (a' := ?_) ?_ ?_
  rotate_left
  · show Act.put _ (some 15) _ = _
    simp only [Act.put, List.setIfInBounds_toArray, List.set_cons_zero, List.set_cons_succ, i64_w, i32_w]
    rfl
  refine done_ (by kernel_rfl) ?_
  have hc2320 : w2319.cell? ⟨g2268, 0, none⟩ = some (.pointer (some ⟨g2270, 0, none⟩)) := blk_cellv (HS.out.at3) 0 rfl
  have hc2321 : w2319.cell? ⟨g2309, 0, none⟩ = some (.int .i64 a2262) := blk_cellv (HS.out.at5) 0 rfl
  go_wp2_with fail
  clear hc2320 hc2321
  obtain ⟨t2322, HA2323, H⟩ := bind_some H
  refine (ground_Ground_SetReg.calls t2317.2.2 t2317.2.1 a2280 a2281 a2282 a2283 a2262 a2265 g2270 g2272 A2275 l2274.length n2277 t2322 _ ⟨HS.out.begin⟩ HA2323).mono ?_
  rintro e_ w2324 ⟨rfl, hS⟩
  replace HS : Aside0 (Sep FF w [b13 g2270 g2272 a2280 a2281 a2282 a2283, b12 g2272 A2275 l2274.length n2277 t2322.2.1, r11 A2275 l2274.length n2277 t2322.2.2, b14 g2268 g2270, b6 g2285 a2286, b1 g2309 a2262 a2263 a2264] w2324) := ⟨HS.out.call hS⟩
  clear hS
  by_cases c2325 : a2266 = 0
  · have H := if_yes c2325 H
    have c2325b0 : (a2266 == 0) = true := beq_iff_eq.mpr c2325
    have c2325b1 : (a2266 != 0) = false := bne_eq_false_iff_eq.mpr c2325
    clear c2325
    have hc2326 : w2324.cell? ⟨g2268, 0, none⟩ = some (.pointer (some ⟨g2270, 0, none⟩)) := blk_cellv (HS.out.at3) 0 rfl
    have hc2327 : w2324.cell? ⟨g2309, 1, none⟩ = some (.int .i64 a2263) := blk_cellv (HS.out.at5) 1 rfl
    go_wp2_with fail
    clear hc2326 hc2327
    obtain ⟨t2328, HA2329, H⟩ := bind_some H
    refine (ground_Ground_SetReg.calls t2322.2.2 t2322.2.1 a2280 a2281 a2282 a2283 a2263 a2265 g2270 g2272 A2275 l2274.length n2277 t2328 _ ⟨HS.out.begin⟩ HA2329).mono ?_
    rintro e_ w2330 ⟨rfl, hS⟩
    replace HS : Aside0 (Sep FF w [b13 g2270 g2272 a2280 a2281 a2282 a2283, b12 g2272 A2275 l2274.length n2277 t2328.2.1, r11 A2275 l2274.length n2277 t2328.2.2, b14 g2268 g2270, b6 g2285 a2286, b1 g2309 a2262 a2263 a2264] w2330) := ⟨HS.out.call hS⟩
    clear hS
    replace HS : Aside0 (Sep FF w [b13 g2270 g2272 a2280 a2281 a2282 a2283, b12 g2272 A2275 l2274.length n2277 t2328.2.1, r11 A2275 l2274.length n2277 t2328.2.2, b14 g2268 g2270, b6 g2285 a2286] w2330) := ⟨HS.out.sub (.cons_cons _ (.cons_cons _ (.cons_cons _ (.cons_cons _ (.cons_cons _ (.cons _ .slnil))))))⟩
    go_wp2_with fail
    first | go_end0 | refine bodyPost_ret (results_none rfl _ _ _) rfl ?_
    rw [← some_eq H]
    exact ⟨rfl, ((((((HS.out).front 4 (by simp)).front 3 (by simp)).front 3 (by simp)).front 3 (by simp)).front 4 (by simp)).keep (l := [b14 g2268 g2270, b13 g2270 g2272 a2280 a2281 a2282 a2283, b12 g2272 A2275 l2274.length n2277 t2328.2.1, r11 A2275 l2274.length n2277 t2328.2.2, b6 g2285 a2286]) (rest := [])⟩
  · have H := if_no c2325 H
    have c2325b0 : (a2266 == 0) = false := beq_eq_false_iff_ne.mpr c2325
    have c2325b1 : (a2266 != 0) = true := bne_iff_ne.mpr c2325
    clear c2325
    go_wp2_with fail
    first | go_end0 | refine bodyPost_ret (results_none rfl _ _ _) rfl ?_
    rw [← some_eq H]
    exact ⟨rfl, ((((((HS.out).front 4 (by simp)).front 3 (by simp)).front 3 (by simp)).front 3 (by simp)).front 4 (by simp)).keep (l := [b14 g2268 g2270, b13 g2270 g2272 a2280 a2281 a2282 a2283, b12 g2272 A2275 l2274.length n2277 t2322.2.1, r11 A2275 l2274.length n2277 t2322.2.2, b6 g2285 a2286]) (rest := [b1 g2309 a2262 a2263 a2264])⟩
end Go.Proofs.Ytobeonkddamnoaa.C

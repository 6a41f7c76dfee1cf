/- Each function of the group WT does what its plain function says, and changes nothing that was there; proved by walking its code. No condition. -/
import Derived.Test.YtobeonkddamnoaaDoorQw
import Derived.Test.YtobeonkddamnoaaDoorMWT
import Derived.Test.YtobeonkddamnoaaDoorGWT0
namespace Go.Proofs.YtobeonkddamnoaaDoor.C
open Go.RowKit Go.Proofs.YtobeonkddamnoaaDoorW.PrintWords Go.Proofs.YtobeonkddamnoaaDoorW.PrintLast Go.Proofs.YtobeonkddamnoaaDoor.Q Go.Proofs.YtobeonkddamnoaaDoor.M
set_option linter.unusedVariables false
set_option linter.unusedSimpArgs false
set_option maxHeartbeats 30000000 in
set_option maxRecDepth 100000 in
theorem plan_Of.calls (k : Nat) (a517 : Int) (a518 : Int) (a519 : Int) (a520 : Int) (r : Int × Int × Int × Int × Int × Int × Int × Int × Int) (w : World)  (HGl0 : Aside0 (Gl 0 #[.int .i64 0, .int .i64 0, .int .i64 0, .int .i64 0, .int .i64 0] (fps []) w)) (HS : Aside0 (Sep (fps []) w [] w)) (H : Aside0 (plan_Of.f k a517 a518 a519 a520 = some r)) :
    Calls Tryd.prog 65 #[.agg #[.int .i64 a517, .int .i64 a518, .int .i64 a519, .int .i64 a520]] w fun e w' => e = .returned (.tuple #[.agg #[.int .i64 r.1, .int .i64 r.2.1, .int .i64 r.2.2.1, .int .i64 r.2.2.2.1, .int .i64 r.2.2.2.2.1, .int .i64 r.2.2.2.2.2.1, .int .i64 r.2.2.2.2.2.2.1, .int .i64 r.2.2.2.2.2.2.2.1], .int .i64 r.2.2.2.2.2.2.2.2]) ∧ Sep (fps []) w [] w' := by
  unfold plan_Of.f at H
  go_enter Tryd.func65, Tryd.ntmps65
  go_wp2_with (first | ((with_reducible refine gate_dst (N := 1) rfl ?_); refine box_on ?hg (N := 1) ?hd (cs := #[.int .i64 a517, .int .i64 a518, .int .i64 a519, .int .i64 a520]) (t := 30) ?hr ?_; (case hd => rfl); (case hg => rfl); (case hr => first | (go_simp; done) | (go_simp; rfl)); intro g521 hg w522 hbox hb; replace HS : Aside0 (Sep (fps []) w [b8 g521 a517 a518 a519 a520] w522) := ⟨HS.out.box hg hbox hb⟩; clear hg hbox hb) | ((with_reducible refine gate_dst (N := 2) rfl ?_); refine box_on ?hg (N := 2) ?hd (cs := #[.int .i64 0, .int .i64 0, .int .i64 0, .int .i64 0, .int .i64 0, .int .i64 0, .int .i64 0, .int .i64 0]) (t := 97) ?hr ?_; (case hd => rfl); (case hg => rfl); (case hr => first | (go_simp; done) | (go_simp; rfl)); intro g524 hg w525 hbox hb; replace HS : Aside0 (Sep (fps []) w [b8 g521 a517 a518 a519 a520, b9 g524 0 0 0 0 0 0 0 0] w525) := ⟨HS.out.box hg hbox hb⟩; clear hg hbox hb; have hc527 : w525.cell? ⟨g521, 0, none⟩ = some (.int .i64 a517) := blk_cellv (HS.out.at0) 0 rfl; have hc528 : w525.cell? ⟨g521, 1, none⟩ = some (.int .i64 a518) := blk_cellv (HS.out.at0) 1 rfl; have hc529 : w525.cell? ⟨g521, 2, none⟩ = some (.int .i64 a519) := blk_cellv (HS.out.at0) 2 rfl; have hc530 : w525.cell? ⟨g521, 3, none⟩ = some (.int .i64 a520) := blk_cellv (HS.out.at0) 3 rfl))
  clear hc527 hc528 hc529 hc530
  obtain ⟨t567, HA568, H⟩ := bind_some H
  refine (plan_Check.calls a517 a518 a519 a520 t567 _ ⟨HGl0.out.pass (l := []) HS.out⟩ ⟨Sep.start _⟩ HA568).mono ?_
  rintro e_ w569 ⟨rfl, hS⟩
  replace HS : Aside0 (Sep (fps []) w [b8 g521 a517 a518 a519 a520, b9 g524 0 0 0 0 0 0 0 0] w569) := ⟨HS.out.call hS⟩
  clear hS
  by_cases c570 : t567 = 0
  · replace H := if_yes c570 H
    have c570b0 : (t567 == 0) = true := beq_iff_eq.mpr c570
    have c570b1 : (t567 != 0) = false := bne_eq_false_iff_eq.mpr c570
    clear c570
    go_wp2_with fail
    obtain ⟨t643, HA644, H⟩ := bind_some H
    obtain ⟨t669, HA670, H⟩ := bind_some H
    go_cut [5] (fun v5 wc => ∃ (g573 : Nat) (g646 : Nat) (g672 : Nat), v5 = .pointer (some ⟨g672, 0, none⟩) ∧ Aside0 (Sep (fps []) w [b8 g521 a517 a518 a519 a520, b9 g524 0 0 0 0 0 0 0 0, b10 g573 a517 a518, b11 g646 24 a519 t643, b9 g672 t669 (wrap64 (a518 - 8)) 0 0 0 0 0 0] wc))
    case first =>
      go_wp2_with fail
      refine start_ (n := 16) (S := (fun w' => w'.cell? ⟨g521, 2, none⟩ = some (.int .i64 a519) ∧ w'.cell? ⟨g521, 0, none⟩ = some (.int .i64 a517) ∧ w'.cell? ⟨g521, 1, none⟩ = some (.int .i64 a518))) (ds := []) #[false, false, false, false, false, false, false, false, false, false, false, false, false, false, false, false] (by kernel_rfl) rfl rfl (⟨blk_cellv ((HS.out.drew).at0) 2 rfl, blk_cellv ((HS.out.drew).at0) 0 rfl, blk_cellv ((HS.out.drew).at0) 1 rfl⟩) (fun hHeld => ?_)
      have HS_ := Aside0.mk HS.out.drew
      clear HS
      generalize World.drew _ = w694 at HS_ hHeld ⊢
      have HS := HS_
      clear HS_
      refine pure_ (i := 0) (N := some 12) (v := ?_) (a' := ?_) #[true, false, false, false, false, false, false, false, false, false, false, false, false, false, false, false] rfl rfl (by kernel_rfl) (fun _ _ _ h => h) (Or.inl ⟨by rfl, ?_⟩) ?_ ?_
      rotate_left
      · intro w'
        go_simp
        with_reducible rfl
      rotate_left
      · simp only [Act.put, List.setIfInBounds_toArray, List.set_cons_zero, List.set_cons_succ, i64_w, i32_w]
        rfl
      refine pure_ (i := 2) (N := some 14) (v := ?_) (a' := ?_) #[true, false, true, false, false, false, false, false, false, false, false, false, false, false, false, false] rfl rfl (by kernel_rfl) (fun _ _ _ h => h) (Or.inl ⟨by rfl, ?_⟩) ?_ ?_
      rotate_left
      · intro w'
        go_simp
        with_reducible rfl
      rotate_left
      · simp only [Act.put, List.setIfInBounds_toArray, List.set_cons_zero, List.set_cons_succ, i64_w, i32_w]
        rfl
      refine pure_ (i := 4) (N := some 16) (v := ?_) (a' := ?_) #[true, false, true, false, true, false, false, false, false, false, false, false, false, false, false, false] rfl rfl (by kernel_rfl) (fun _ _ _ h => h) (Or.inl ⟨by rfl, ?_⟩) ?_ ?_
      rotate_left
      · intro w'
        go_simp
        with_reducible rfl
      rotate_left
      · simp only [Act.put, List.setIfInBounds_toArray, List.set_cons_zero, List.set_cons_succ, i64_w, i32_w]
        rfl
      refine pure_ (i := 10) (N := some 22) (v := ?_) (a' := ?_) #[true, false, true, false, true, false, false, false, false, false, true, false, false, false, false, false] rfl rfl (by kernel_rfl) (fun _ _ _ h => h) (Or.inl ⟨by rfl, ?_⟩) ?_ ?_
      rotate_left
      · intro w'
        go_simp
        with_reducible rfl
      rotate_left
      · simp only [Act.put, List.setIfInBounds_toArray, List.set_cons_zero, List.set_cons_succ, i64_w, i32_w]
        rfl
      refine take_ (i := 1) (N := some 13) (v := ?_) (a' := ?_) #[true, true, true, false, true, false, false, false, false, false, true, false, false, false, false, false] rfl rfl (by kernel_rfl) (fun _ _ _ h => h) (Or.inl ⟨by rfl, ?_⟩) hHeld ?_ ?_
      rotate_left
      · rintro w' hS'
        obtain ⟨s0, s1, s2⟩ := hS'
        go_simp
        with_reducible rfl
      rotate_left
      · simp only [Act.put, List.setIfInBounds_toArray, List.set_cons_zero, List.set_cons_succ, i64_w, i32_w]
        rfl
      refine take_ (i := 3) (N := some 15) (v := ?_) (a' := ?_) #[true, true, true, true, true, false, false, false, false, false, true, false, false, false, false, false] rfl rfl (by kernel_rfl) (fun _ _ _ h => h) (Or.inl ⟨by rfl, ?_⟩) hHeld ?_ ?_
      rotate_left
      · rintro w' hS'
        obtain ⟨s0, s1, s2⟩ := hS'
        go_simp
        with_reducible rfl
      rotate_left
      · simp only [Act.put, List.setIfInBounds_toArray, List.set_cons_zero, List.set_cons_succ, i64_w, i32_w]
        rfl
      refine take_ (i := 5) (N := some 17) (v := ?_) (a' := ?_) #[true, true, true, true, true, true, false, false, false, false, true, false, false, false, false, false] rfl rfl (by kernel_rfl) (fun _ _ _ h => h) (Or.inl ⟨by rfl, ?_⟩) hHeld ?_ ?_
      rotate_left
      · rintro w' hS'
        obtain ⟨s0, s1, s2⟩ := hS'
        go_simp
        with_reducible rfl
      rotate_left
      · simp only [Act.put, List.setIfInBounds_toArray, List.set_cons_zero, List.set_cons_succ, i64_w, i32_w]
        rfl
      refine take_ (i := 11) (N := some 23) (v := ?_) (a' := ?_) #[true, true, true, true, true, true, false, false, false, false, true, true, false, false, false, false] rfl rfl (by kernel_rfl) (fun _ _ _ h => h) (Or.inl ⟨by rfl, ?_⟩) hHeld ?_ ?_
      rotate_left
      · rintro w' hS'
        obtain ⟨s0, s1, s2⟩ := hS'
        go_simp
        with_reducible rfl
      rotate_left
      · simp only [Act.put, List.setIfInBounds_toArray, List.set_cons_zero, List.set_cons_succ, i64_w, i32_w]
        rfl
      refine pure_ (i := 12) (N := some 24) (v := ?_) (a' := ?_) #[true, true, true, true, true, true, false, false, false, false, true, true, true, false, false, false] rfl rfl (by kernel_rfl) (fun _ _ _ h => h) (Or.inl ⟨by rfl, ?_⟩) ?_ ?_
      rotate_left
      · intro w'
        go_simp
        with_reducible rfl
      rotate_left
      · simp only [Act.put, List.setIfInBounds_toArray, List.set_cons_zero, List.set_cons_succ, i64_w, i32_w]
        rfl
      refine two_ (i := 6) (j := 14) (Ni := some 18) (Nj := some 5) #[true, true, true, true, true, true, true, false, false, false, true, true, true, false, false, false] #[true, true, true, true, true, true, false, false, false, false, true, true, true, false, true, false] rfl rfl rfl rfl (by kernel_rfl) (by decide) (by decide) (fun K hK => ?_) (fun K hK => ?_)
      · refine slice_step (n := 2) (by rfl) (N := 18) rfl (cs := #[.int .i64 a517, .int .i64 a518]) (t := 3) ?hr ?_
        case hr => first | (go_simp; done) | (go_simp; rfl)
        intro g695 hg w696 hbox hb
        replace HS : Aside0 (Sep (fps []) w [b8 g521 a517 a518 a519 a520, b9 g524 0 0 0 0 0 0 0 0, b10 g695 a517 a518] w696) := ⟨HS.out.box hg hbox hb⟩
        clear hg hbox hb
        refine hK.out _ _ (⟨blk_cellv (HS.out.at0) 2 rfl, blk_cellv (HS.out.at0) 0 rfl, blk_cellv (HS.out.at0) 1 rfl⟩) (fun hHeld => ?_)
        clear hK K
        refine norm_ (a' := ?_) ?_ ?_
        rotate_left
        · show Act.put _ (some 18) _ = _
          simp only [Act.put, List.setIfInBounds_toArray, List.set_cons_zero, List.set_cons_succ, i64_w, i32_w]
          rfl
        refine two_ (i := 7) (j := 14) (Ni := some 19) (Nj := some 5) #[true, true, true, true, true, true, true, true, false, false, true, true, true, false, false, false] #[true, true, true, true, true, true, true, false, false, false, true, true, true, false, true, false] rfl rfl rfl rfl (by kernel_rfl) (by decide) (by decide) (fun K hK => ?_) (fun K hK => ?_)
        · refine goes_ Tryd.func123 (by kernel_rfl) rfl #[.slice (some ⟨g695, 0, none⟩) 2 2] (by rfl) rfl rfl (by (try simp only [List.map_toArray, List.map_cons, List.map_nil]); first | done | rfl) ?_
          refine (ratio_Mul.calls _ [a517, a518] (some ⟨g695, 0, none⟩) 2 t643 _ ⟨Rd.lit (l := []) (xs := [a517, a518]) HS.out 2 rfl (by simp)⟩ ⟨HGl0.out.pass (l := []) HS.out⟩ ⟨Sep.start _⟩ HA644).mono ?_
          rintro e_ w699 ⟨rfl, hS⟩
          replace HS : Aside0 (Sep (fps []) w [b8 g521 a517 a518 a519 a520, b9 g524 0 0 0 0 0 0 0 0, b10 g695 a517 a518] w699) := ⟨HS.out.call hS⟩
          clear hS
          refine ⟨_, rfl, ?_⟩
          refine hK.out _ _ (⟨blk_cellv (HS.out.at0) 2 rfl, blk_cellv (HS.out.at0) 0 rfl, blk_cellv (HS.out.at0) 1 rfl⟩) (fun hHeld => ?_)
          clear hK K
          refine norm_ (a' := ?_) ?_ ?_
          rotate_left
          · show Act.put _ (some 19) _ = _
            simp only [Act.put, List.setIfInBounds_toArray, List.set_cons_zero, List.set_cons_succ, i64_w, i32_w]
            rfl
          refine two_ (i := 8) (j := 14) (Ni := some 20) (Nj := some 5) #[true, true, true, true, true, true, true, true, true, false, true, true, true, false, false, false] #[true, true, true, true, true, true, true, true, false, false, true, true, true, false, true, false] rfl rfl rfl rfl (by kernel_rfl) (by decide) (by decide) (fun K hK => ?_) (fun K hK => ?_)
          · refine slice_step (n := 3) (by rfl) (N := 20) rfl (cs := #[.int .i64 24, .int .i64 a519, .int .i64 t643]) (t := 3) ?hr ?_
            case hr => first | (go_simp; done) | (go_simp; rfl)
            intro g700 hg w701 hbox hb
            replace HS : Aside0 (Sep (fps []) w [b8 g521 a517 a518 a519 a520, b9 g524 0 0 0 0 0 0 0 0, b10 g695 a517 a518, b11 g700 24 a519 t643] w701) := ⟨HS.out.box hg hbox hb⟩
            clear hg hbox hb
            refine hK.out _ _ (⟨blk_cellv (HS.out.at0) 2 rfl, blk_cellv (HS.out.at0) 0 rfl, blk_cellv (HS.out.at0) 1 rfl⟩) (fun hHeld => ?_)
            clear hK K
            refine norm_ (a' := ?_) ?_ ?_
            rotate_left
            · show Act.put _ (some 20) _ = _
              simp only [Act.put, List.setIfInBounds_toArray, List.set_cons_zero, List.set_cons_succ, i64_w, i32_w]
              rfl
            refine two_ (i := 9) (j := 14) (Ni := some 21) (Nj := some 5) #[true, true, true, true, true, true, true, true, true, true, true, true, true, false, false, false] #[true, true, true, true, true, true, true, true, true, false, true, true, true, false, true, false] rfl rfl rfl rfl (by kernel_rfl) (by decide) (by decide) (fun K hK => ?_) (fun K hK => ?_)
            · refine goes_ Tryd.func122 (by kernel_rfl) rfl #[.slice (some ⟨g700, 0, none⟩) 3 3] (by rfl) rfl rfl (by (try simp only [List.map_toArray, List.map_cons, List.map_nil]); first | done | rfl) ?_
              refine (ratio_Add.calls _ [24, a519, t643] (some ⟨g700, 0, none⟩) 3 t669 _ ⟨Rd.lit (l := []) (xs := [24, a519, t643]) HS.out 3 rfl (by simp)⟩ ⟨HGl0.out.pass (l := []) HS.out⟩ ⟨Sep.start _⟩ HA670).mono ?_
              rintro e_ w704 ⟨rfl, hS⟩
              replace HS : Aside0 (Sep (fps []) w [b8 g521 a517 a518 a519 a520, b9 g524 0 0 0 0 0 0 0 0, b10 g695 a517 a518, b11 g700 24 a519 t643] w704) := ⟨HS.out.call hS⟩
              clear hS
              refine ⟨_, rfl, ?_⟩
              refine hK.out _ _ (⟨blk_cellv (HS.out.at0) 2 rfl, blk_cellv (HS.out.at0) 0 rfl, blk_cellv (HS.out.at0) 1 rfl⟩) (fun hHeld => ?_)
              clear hK K
              refine norm_ (a' := ?_) ?_ ?_
              rotate_left
              · show Act.put _ (some 21) _ = _
                simp only [Act.put, List.setIfInBounds_toArray, List.set_cons_zero, List.set_cons_succ, i64_w, i32_w]
                rfl
              refine pure_ (i := 13) (N := some 25) (v := ?_) (a' := ?_) #[true, true, true, true, true, true, true, true, true, true, true, true, true, true, false, false] rfl rfl (by kernel_rfl) (fun _ _ _ h => h) (Or.inl ⟨by rfl, ?_⟩) ?_ ?_
              rotate_left
              · intro w'
                go_simp
                with_reducible rfl
              rotate_left
              · simp only [Act.put, List.setIfInBounds_toArray, List.set_cons_zero, List.set_cons_succ, i64_w, i32_w]
                rfl
              refine one_ (i := 14) (N := some 5) #[true, true, true, true, true, true, true, true, true, true, true, true, true, true, true, false] rfl rfl (by kernel_rfl) (by decide) (fun K hK => ?_)
              refine box_step (by rfl) (N := 5) rfl (cs := #[.int .i64 0, .int .i64 0, .int .i64 0, .int .i64 0, .int .i64 0, .int .i64 0, .int .i64 0, .int .i64 0]) (t := 97) ?hr ?_
              case hr => first | (go_simp; done) | (go_simp; rfl)
              intro g705 hg w706 hbox hb
              replace HS : Aside0 (Sep (fps []) w [b8 g521 a517 a518 a519 a520, b9 g524 0 0 0 0 0 0 0 0, b10 g695 a517 a518, b11 g700 24 a519 t643, b9 g705 0 0 0 0 0 0 0 0] w706) := ⟨HS.out.box hg hbox hb⟩
              clear hg hbox hb
              refine hK.out _ _ (⟨blk_cellv (HS.out.at0) 2 rfl, blk_cellv (HS.out.at0) 0 rfl, blk_cellv (HS.out.at0) 1 rfl⟩) (fun hHeld => ?_)
              clear hK K
              refine norm_ (a' := ?_) ?_ ?_
              rotate_left
              · show Act.put _ (some 5) _ = _
                simp only [Act.put, List.setIfInBounds_toArray, List.set_cons_zero, List.set_cons_succ, i64_w, i32_w]
                rfl
              refine one_ (i := 15) (N := none) #[true, true, true, true, true, true, true, true, true, true, true, true, true, true, true, true] rfl rfl (by kernel_rfl) (by decide) (fun K hK => ?_)
              have hc709 := blk_cellv (v := .int .i64 0) (HS.out.at4) 0 rfl
              have hz710 := blk_fz (HS.out.at4) 0
              have hc711 := blk_cellv (v := .int .i64 0) (HS.out.at4) 1 rfl
              have hz712 := blk_fz (HS.out.at4) 1
              have hc713 := blk_cellv (v := .int .i64 0) (HS.out.at4) 2 rfl
              have hz714 := blk_fz (HS.out.at4) 2
              have hc715 := blk_cellv (v := .int .i64 0) (HS.out.at4) 3 rfl
              have hz716 := blk_fz (HS.out.at4) 3
              have hc717 := blk_cellv (v := .int .i64 0) (HS.out.at4) 4 rfl
              have hz718 := blk_fz (HS.out.at4) 4
              have hc719 := blk_cellv (v := .int .i64 0) (HS.out.at4) 5 rfl
              have hz720 := blk_fz (HS.out.at4) 5
              have hc721 := blk_cellv (v := .int .i64 0) (HS.out.at4) 6 rfl
              have hz722 := blk_fz (HS.out.at4) 6
              have hc723 := blk_cellv (v := .int .i64 0) (HS.out.at4) 7 rfl
              have hz724 := blk_fz (HS.out.at4) 7
              refine store_step (w1 := (World.setCell (World.setCell (World.setCell (World.setCell (World.setCell (World.setCell (World.setCell (World.setCell w706 ⟨g705, 0, none⟩ (.int .i64 t669)) ⟨g705, 1, none⟩ (.int .i64 (wrap64 (a518 - 8)))) ⟨g705, 2, none⟩ (.int .i64 0)) ⟨g705, 3, none⟩ (.int .i64 0)) ⟨g705, 4, none⟩ (.int .i64 0)) ⟨g705, 5, none⟩ (.int .i64 0)) ⟨g705, 6, none⟩ (.int .i64 0)) ⟨g705, 7, none⟩ (.int .i64 0))) (by rfl) rfl ?hr ?_
              case hr => first | (go_simp; done) | (go_simp; rfl)
              clear hc709 hz710 hc711 hz712 hc713 hz714 hc715 hz716 hc717 hz718 hc719 hz720 hc721 hz722 hc723 hz724
              intro w708 hst
              replace HS : Aside0 (Sep (fps []) w [b8 g521 a517 a518 a519 a520, b9 g524 0 0 0 0 0 0 0 0, b10 g695 a517 a518, b11 g700 24 a519 t643, b9 g705 t669 (wrap64 (a518 - 8)) 0 0 0 0 0 0] w708) := ⟨by rw [hst]; exact HS.out.setAll (l1 := [b8 g521 a517 a518 a519 a520, b9 g524 0 0 0 0 0 0 0 0, b10 g695 a517 a518, b11 g700 24 a519 t643]) (l2 := []) [.int .i64 t669, .int .i64 (wrap64 (a518 - 8)), .int .i64 0, .int .i64 0, .int .i64 0, .int .i64 0, .int .i64 0, .int .i64 0] rfl⟩
              clear hst
              refine hK.out _ _ (⟨blk_cellv (HS.out.at0) 2 rfl, blk_cellv (HS.out.at0) 0 rfl, blk_cellv (HS.out.at0) 1 rfl⟩) (fun hHeld => ?_)
              clear hK K
              refine done_ (by kernel_rfl) ?_
              go_wp2_with fail
              go_meet
              case rel => exact ⟨g695, g700, g705, (by first | rfl | (simp [IntKind.wrap_u32]; done)), ⟨(((((HS.out).front 4 (by simp)).front 4 (by simp)).front 4 (by simp)).front 4 (by simp)).front 4 (by simp)⟩⟩
            · refine box_step (by rfl) (N := 5) rfl (cs := #[.int .i64 0, .int .i64 0, .int .i64 0, .int .i64 0, .int .i64 0, .int .i64 0, .int .i64 0, .int .i64 0]) (t := 97) ?hr ?_
              case hr => first | (go_simp; done) | (go_simp; rfl)
              intro g725 hg w726 hbox hb
              replace HS : Aside0 (Sep (fps []) w [b8 g521 a517 a518 a519 a520, b9 g524 0 0 0 0 0 0 0 0, b10 g695 a517 a518, b11 g700 24 a519 t643, b9 g725 0 0 0 0 0 0 0 0] w726) := ⟨HS.out.box hg hbox hb⟩
              clear hg hbox hb
              refine hK.out _ _ (⟨blk_cellv (HS.out.at0) 2 rfl, blk_cellv (HS.out.at0) 0 rfl, blk_cellv (HS.out.at0) 1 rfl⟩) (fun hHeld => ?_)
              clear hK K
              refine norm_ (a' := ?_) ?_ ?_
              rotate_left
              · show Act.put _ (some 5) _ = _
                simp only [Act.put, List.setIfInBounds_toArray, List.set_cons_zero, List.set_cons_succ, i64_w, i32_w]
                rfl
              refine one_ (i := 9) (N := some 21) #[true, true, true, true, true, true, true, true, true, true, true, true, true, false, true, false] rfl rfl (by kernel_rfl) (by decide) (fun K hK => ?_)
              refine goes_ Tryd.func122 (by kernel_rfl) rfl #[.slice (some ⟨g700, 0, none⟩) 3 3] (by rfl) rfl rfl (by (try simp only [List.map_toArray, List.map_cons, List.map_nil]); first | done | rfl) ?_
              refine (ratio_Add.calls _ [24, a519, t643] (some ⟨g700, 0, none⟩) 3 t669 _ ⟨Rd.lit (l := []) (xs := [24, a519, t643]) HS.out 3 rfl (by simp)⟩ ⟨HGl0.out.pass (l := []) HS.out⟩ ⟨Sep.start _⟩ HA670).mono ?_
              rintro e_ w729 ⟨rfl, hS⟩
              replace HS : Aside0 (Sep (fps []) w [b8 g521 a517 a518 a519 a520, b9 g524 0 0 0 0 0 0 0 0, b10 g695 a517 a518, b11 g700 24 a519 t643, b9 g725 0 0 0 0 0 0 0 0] w729) := ⟨HS.out.call hS⟩
              clear hS
              refine ⟨_, rfl, ?_⟩
              refine hK.out _ _ (⟨blk_cellv (HS.out.at0) 2 rfl, blk_cellv (HS.out.at0) 0 rfl, blk_cellv (HS.out.at0) 1 rfl⟩) (fun hHeld => ?_)
              clear hK K
              refine norm_ (a' := ?_) ?_ ?_
              rotate_left
              · show Act.put _ (some 21) _ = _
                simp only [Act.put, List.setIfInBounds_toArray, List.set_cons_zero, List.set_cons_succ, i64_w, i32_w]
                rfl
              refine pure_ (i := 13) (N := some 25) (v := ?_) (a' := ?_) #[true, true, true, true, true, true, true, true, true, true, true, true, true, true, true, false] rfl rfl (by kernel_rfl) (fun _ _ _ h => h) (Or.inl ⟨by rfl, ?_⟩) ?_ ?_
              rotate_left
              · intro w'
                go_simp
                with_reducible rfl
              rotate_left
              · simp only [Act.put, List.setIfInBounds_toArray, List.set_cons_zero, List.set_cons_succ, i64_w, i32_w]
                rfl
              refine one_ (i := 15) (N := none) #[true, true, true, true, true, true, true, true, true, true, true, true, true, true, true, true] rfl rfl (by kernel_rfl) (by decide) (fun K hK => ?_)
              have hc731 := blk_cellv (v := .int .i64 0) (HS.out.at4) 0 rfl
              have hz732 := blk_fz (HS.out.at4) 0
              have hc733 := blk_cellv (v := .int .i64 0) (HS.out.at4) 1 rfl
              have hz734 := blk_fz (HS.out.at4) 1
              have hc735 := blk_cellv (v := .int .i64 0) (HS.out.at4) 2 rfl
              have hz736 := blk_fz (HS.out.at4) 2
              have hc737 := blk_cellv (v := .int .i64 0) (HS.out.at4) 3 rfl
              have hz738 := blk_fz (HS.out.at4) 3
              have hc739 := blk_cellv (v := .int .i64 0) (HS.out.at4) 4 rfl
              have hz740 := blk_fz (HS.out.at4) 4
              have hc741 := blk_cellv (v := .int .i64 0) (HS.out.at4) 5 rfl
              have hz742 := blk_fz (HS.out.at4) 5
              have hc743 := blk_cellv (v := .int .i64 0) (HS.out.at4) 6 rfl
              have hz744 := blk_fz (HS.out.at4) 6
              have hc745 := blk_cellv (v := .int .i64 0) (HS.out.at4) 7 rfl
              have hz746 := blk_fz (HS.out.at4) 7
              refine store_step (w1 := (World.setCell (World.setCell (World.setCell (World.setCell (World.setCell (World.setCell (World.setCell (World.setCell w729 ⟨g725, 0, none⟩ (.int .i64 t669)) ⟨g725, 1, none⟩ (.int .i64 (wrap64 (a518 - 8)))) ⟨g725, 2, none⟩ (.int .i64 0)) ⟨g725, 3, none⟩ (.int .i64 0)) ⟨g725, 4, none⟩ (.int .i64 0)) ⟨g725, 5, none⟩ (.int .i64 0)) ⟨g725, 6, none⟩ (.int .i64 0)) ⟨g725, 7, none⟩ (.int .i64 0))) (by rfl) rfl ?hr ?_
              case hr => first | (go_simp; done) | (go_simp; rfl)
              clear hc731 hz732 hc733 hz734 hc735 hz736 hc737 hz738 hc739 hz740 hc741 hz742 hc743 hz744 hc745 hz746
              intro w730 hst
              replace HS : Aside0 (Sep (fps []) w [b8 g521 a517 a518 a519 a520, b9 g524 0 0 0 0 0 0 0 0, b10 g695 a517 a518, b11 g700 24 a519 t643, b9 g725 t669 (wrap64 (a518 - 8)) 0 0 0 0 0 0] w730) := ⟨by rw [hst]; exact HS.out.setAll (l1 := [b8 g521 a517 a518 a519 a520, b9 g524 0 0 0 0 0 0 0 0, b10 g695 a517 a518, b11 g700 24 a519 t643]) (l2 := []) [.int .i64 t669, .int .i64 (wrap64 (a518 - 8)), .int .i64 0, .int .i64 0, .int .i64 0, .int .i64 0, .int .i64 0, .int .i64 0] rfl⟩
              clear hst
              refine hK.out _ _ (⟨blk_cellv (HS.out.at0) 2 rfl, blk_cellv (HS.out.at0) 0 rfl, blk_cellv (HS.out.at0) 1 rfl⟩) (fun hHeld => ?_)
              clear hK K
              refine done_ (by kernel_rfl) ?_
              go_wp2_with fail
              go_meet
              case rel => exact ⟨g695, g700, g725, (by first | rfl | (simp [IntKind.wrap_u32]; done)), ⟨(((((HS.out).front 4 (by simp)).front 4 (by simp)).front 4 (by simp)).front 4 (by simp)).front 4 (by simp)⟩⟩
          · refine box_step (by rfl) (N := 5) rfl (cs := #[.int .i64 0, .int .i64 0, .int .i64 0, .int .i64 0, .int .i64 0, .int .i64 0, .int .i64 0, .int .i64 0]) (t := 97) ?hr ?_
            case hr => first | (go_simp; done) | (go_simp; rfl)
            intro g747 hg w748 hbox hb
            replace HS : Aside0 (Sep (fps []) w [b8 g521 a517 a518 a519 a520, b9 g524 0 0 0 0 0 0 0 0, b10 g695 a517 a518, b9 g747 0 0 0 0 0 0 0 0] w748) := ⟨HS.out.box hg hbox hb⟩
            clear hg hbox hb
            refine hK.out _ _ (⟨blk_cellv (HS.out.at0) 2 rfl, blk_cellv (HS.out.at0) 0 rfl, blk_cellv (HS.out.at0) 1 rfl⟩) (fun hHeld => ?_)
            clear hK K
            refine norm_ (a' := ?_) ?_ ?_
            rotate_left
            · show Act.put _ (some 5) _ = _
              simp only [Act.put, List.setIfInBounds_toArray, List.set_cons_zero, List.set_cons_succ, i64_w, i32_w]
              rfl
            refine one_ (i := 8) (N := some 20) #[true, true, true, true, true, true, true, true, true, false, true, true, true, false, true, false] rfl rfl (by kernel_rfl) (by decide) (fun K hK => ?_)
            refine slice_step (n := 3) (by rfl) (N := 20) rfl (cs := #[.int .i64 24, .int .i64 a519, .int .i64 t643]) (t := 3) ?hr ?_
            case hr => first | (go_simp; done) | (go_simp; rfl)
            intro g750 hg w751 hbox hb
            replace HS : Aside0 (Sep (fps []) w [b8 g521 a517 a518 a519 a520, b9 g524 0 0 0 0 0 0 0 0, b10 g695 a517 a518, b9 g747 0 0 0 0 0 0 0 0, b11 g750 24 a519 t643] w751) := ⟨HS.out.box hg hbox hb⟩
            clear hg hbox hb
            refine hK.out _ _ (⟨blk_cellv (HS.out.at0) 2 rfl, blk_cellv (HS.out.at0) 0 rfl, blk_cellv (HS.out.at0) 1 rfl⟩) (fun hHeld => ?_)
            clear hK K
            refine norm_ (a' := ?_) ?_ ?_
            rotate_left
            · show Act.put _ (some 20) _ = _
              simp only [Act.put, List.setIfInBounds_toArray, List.set_cons_zero, List.set_cons_succ, i64_w, i32_w]
              rfl
            refine one_ (i := 9) (N := some 21) #[true, true, true, true, true, true, true, true, true, true, true, true, true, false, true, false] rfl rfl (by kernel_rfl) (by decide) (fun K hK => ?_)
            refine goes_ Tryd.func122 (by kernel_rfl) rfl #[.slice (some ⟨g750, 0, none⟩) 3 3] (by rfl) rfl rfl (by (try simp only [List.map_toArray, List.map_cons, List.map_nil]); first | done | rfl) ?_
            refine (ratio_Add.calls _ [24, a519, t643] (some ⟨g750, 0, none⟩) 3 t669 _ ⟨Rd.lit (l := []) (xs := [24, a519, t643]) HS.out 4 rfl (by simp)⟩ ⟨HGl0.out.pass (l := []) HS.out⟩ ⟨Sep.start _⟩ HA670).mono ?_
            rintro e_ w754 ⟨rfl, hS⟩
            replace HS : Aside0 (Sep (fps []) w [b8 g521 a517 a518 a519 a520, b9 g524 0 0 0 0 0 0 0 0, b10 g695 a517 a518, b9 g747 0 0 0 0 0 0 0 0, b11 g750 24 a519 t643] w754) := ⟨HS.out.call hS⟩
            clear hS
            refine ⟨_, rfl, ?_⟩
            refine hK.out _ _ (⟨blk_cellv (HS.out.at0) 2 rfl, blk_cellv (HS.out.at0) 0 rfl, blk_cellv (HS.out.at0) 1 rfl⟩) (fun hHeld => ?_)
            clear hK K
            refine norm_ (a' := ?_) ?_ ?_
            rotate_left
            · show Act.put _ (some 21) _ = _
              simp only [Act.put, List.setIfInBounds_toArray, List.set_cons_zero, List.set_cons_succ, i64_w, i32_w]
              rfl
            refine pure_ (i := 13) (N := some 25) (v := ?_) (a' := ?_) #[true, true, true, true, true, true, true, true, true, true, true, true, true, true, true, false] rfl rfl (by kernel_rfl) (fun _ _ _ h => h) (Or.inl ⟨by rfl, ?_⟩) ?_ ?_
            rotate_left
            · intro w'
              go_simp
              with_reducible rfl
            rotate_left
            · simp only [Act.put, List.setIfInBounds_toArray, List.set_cons_zero, List.set_cons_succ, i64_w, i32_w]
              rfl
            refine one_ (i := 15) (N := none) #[true, true, true, true, true, true, true, true, true, true, true, true, true, true, true, true] rfl rfl (by kernel_rfl) (by decide) (fun K hK => ?_)
            have hc756 := blk_cellv (v := .int .i64 0) (HS.out.at3) 0 rfl
            have hz757 := blk_fz (HS.out.at3) 0
            have hc758 := blk_cellv (v := .int .i64 0) (HS.out.at3) 1 rfl
            have hz759 := blk_fz (HS.out.at3) 1
            have hc760 := blk_cellv (v := .int .i64 0) (HS.out.at3) 2 rfl
            have hz761 := blk_fz (HS.out.at3) 2
            have hc762 := blk_cellv (v := .int .i64 0) (HS.out.at3) 3 rfl
            have hz763 := blk_fz (HS.out.at3) 3
            have hc764 := blk_cellv (v := .int .i64 0) (HS.out.at3) 4 rfl
            have hz765 := blk_fz (HS.out.at3) 4
            have hc766 := blk_cellv (v := .int .i64 0) (HS.out.at3) 5 rfl
            have hz767 := blk_fz (HS.out.at3) 5
            have hc768 := blk_cellv (v := .int .i64 0) (HS.out.at3) 6 rfl
            have hz769 := blk_fz (HS.out.at3) 6
            have hc770 := blk_cellv (v := .int .i64 0) (HS.out.at3) 7 rfl
            have hz771 := blk_fz (HS.out.at3) 7
            refine store_step (w1 := (World.setCell (World.setCell (World.setCell (World.setCell (World.setCell (World.setCell (World.setCell (World.setCell w754 ⟨g747, 0, none⟩ (.int .i64 t669)) ⟨g747, 1, none⟩ (.int .i64 (wrap64 (a518 - 8)))) ⟨g747, 2, none⟩ (.int .i64 0)) ⟨g747, 3, none⟩ (.int .i64 0)) ⟨g747, 4, none⟩ (.int .i64 0)) ⟨g747, 5, none⟩ (.int .i64 0)) ⟨g747, 6, none⟩ (.int .i64 0)) ⟨g747, 7, none⟩ (.int .i64 0))) (by rfl) rfl ?hr ?_
            case hr => first | (go_simp; done) | (go_simp; rfl)
            clear hc756 hz757 hc758 hz759 hc760 hz761 hc762 hz763 hc764 hz765 hc766 hz767 hc768 hz769 hc770 hz771
            intro w755 hst
            replace HS : Aside0 (Sep (fps []) w [b8 g521 a517 a518 a519 a520, b9 g524 0 0 0 0 0 0 0 0, b10 g695 a517 a518, b9 g747 t669 (wrap64 (a518 - 8)) 0 0 0 0 0 0, b11 g750 24 a519 t643] w755) := ⟨by rw [hst]; exact HS.out.setAll (l1 := [b8 g521 a517 a518 a519 a520, b9 g524 0 0 0 0 0 0 0 0, b10 g695 a517 a518]) (l2 := [b11 g750 24 a519 t643]) [.int .i64 t669, .int .i64 (wrap64 (a518 - 8)), .int .i64 0, .int .i64 0, .int .i64 0, .int .i64 0, .int .i64 0, .int .i64 0] rfl⟩
            clear hst
            refine hK.out _ _ (⟨blk_cellv (HS.out.at0) 2 rfl, blk_cellv (HS.out.at0) 0 rfl, blk_cellv (HS.out.at0) 1 rfl⟩) (fun hHeld => ?_)
            clear hK K
            refine done_ (by kernel_rfl) ?_
            go_wp2_with fail
            go_meet
            case rel => exact ⟨g695, g750, g747, (by first | rfl | (simp [IntKind.wrap_u32]; done)), ⟨(((((HS.out).front 3 (by simp)).front 4 (by simp)).front 4 (by simp)).front 4 (by simp)).front 4 (by simp)⟩⟩
        · refine box_step (by rfl) (N := 5) rfl (cs := #[.int .i64 0, .int .i64 0, .int .i64 0, .int .i64 0, .int .i64 0, .int .i64 0, .int .i64 0, .int .i64 0]) (t := 97) ?hr ?_
          case hr => first | (go_simp; done) | (go_simp; rfl)
          intro g772 hg w773 hbox hb
          replace HS : Aside0 (Sep (fps []) w [b8 g521 a517 a518 a519 a520, b9 g524 0 0 0 0 0 0 0 0, b10 g695 a517 a518, b9 g772 0 0 0 0 0 0 0 0] w773) := ⟨HS.out.box hg hbox hb⟩
          clear hg hbox hb
          refine hK.out _ _ (⟨blk_cellv (HS.out.at0) 2 rfl, blk_cellv (HS.out.at0) 0 rfl, blk_cellv (HS.out.at0) 1 rfl⟩) (fun hHeld => ?_)
          clear hK K
          refine norm_ (a' := ?_) ?_ ?_
          rotate_left
          · show Act.put _ (some 5) _ = _
            simp only [Act.put, List.setIfInBounds_toArray, List.set_cons_zero, List.set_cons_succ, i64_w, i32_w]
            rfl
          refine one_ (i := 7) (N := some 19) #[true, true, true, true, true, true, true, true, false, false, true, true, true, false, true, false] rfl rfl (by kernel_rfl) (by decide) (fun K hK => ?_)
          refine goes_ Tryd.func123 (by kernel_rfl) rfl #[.slice (some ⟨g695, 0, none⟩) 2 2] (by rfl) rfl rfl (by (try simp only [List.map_toArray, List.map_cons, List.map_nil]); first | done | rfl) ?_
          refine (ratio_Mul.calls _ [a517, a518] (some ⟨g695, 0, none⟩) 2 t643 _ ⟨Rd.lit (l := []) (xs := [a517, a518]) HS.out 2 rfl (by simp)⟩ ⟨HGl0.out.pass (l := []) HS.out⟩ ⟨Sep.start _⟩ HA644).mono ?_
          rintro e_ w776 ⟨rfl, hS⟩
          replace HS : Aside0 (Sep (fps []) w [b8 g521 a517 a518 a519 a520, b9 g524 0 0 0 0 0 0 0 0, b10 g695 a517 a518, b9 g772 0 0 0 0 0 0 0 0] w776) := ⟨HS.out.call hS⟩
          clear hS
          refine ⟨_, rfl, ?_⟩
          refine hK.out _ _ (⟨blk_cellv (HS.out.at0) 2 rfl, blk_cellv (HS.out.at0) 0 rfl, blk_cellv (HS.out.at0) 1 rfl⟩) (fun hHeld => ?_)
          clear hK K
          refine norm_ (a' := ?_) ?_ ?_
          rotate_left
          · show Act.put _ (some 19) _ = _
            simp only [Act.put, List.setIfInBounds_toArray, List.set_cons_zero, List.set_cons_succ, i64_w, i32_w]
            rfl
          refine one_ (i := 8) (N := some 20) #[true, true, true, true, true, true, true, true, true, false, true, true, true, false, true, false] rfl rfl (by kernel_rfl) (by decide) (fun K hK => ?_)
          refine slice_step (n := 3) (by rfl) (N := 20) rfl (cs := #[.int .i64 24, .int .i64 a519, .int .i64 t643]) (t := 3) ?hr ?_
          case hr => first | (go_simp; done) | (go_simp; rfl)
          intro g777 hg w778 hbox hb
          replace HS : Aside0 (Sep (fps []) w [b8 g521 a517 a518 a519 a520, b9 g524 0 0 0 0 0 0 0 0, b10 g695 a517 a518, b9 g772 0 0 0 0 0 0 0 0, b11 g777 24 a519 t643] w778) := ⟨HS.out.box hg hbox hb⟩
          clear hg hbox hb
          refine hK.out _ _ (⟨blk_cellv (HS.out.at0) 2 rfl, blk_cellv (HS.out.at0) 0 rfl, blk_cellv (HS.out.at0) 1 rfl⟩) (fun hHeld => ?_)
          clear hK K
          refine norm_ (a' := ?_) ?_ ?_
          rotate_left
          · show Act.put _ (some 20) _ = _
            simp only [Act.put, List.setIfInBounds_toArray, List.set_cons_zero, List.set_cons_succ, i64_w, i32_w]
            rfl
          refine one_ (i := 9) (N := some 21) #[true, true, true, true, true, true, true, true, true, true, true, true, true, false, true, false] rfl rfl (by kernel_rfl) (by decide) (fun K hK => ?_)
          refine goes_ Tryd.func122 (by kernel_rfl) rfl #[.slice (some ⟨g777, 0, none⟩) 3 3] (by rfl) rfl rfl (by (try simp only [List.map_toArray, List.map_cons, List.map_nil]); first | done | rfl) ?_
          refine (ratio_Add.calls _ [24, a519, t643] (some ⟨g777, 0, none⟩) 3 t669 _ ⟨Rd.lit (l := []) (xs := [24, a519, t643]) HS.out 4 rfl (by simp)⟩ ⟨HGl0.out.pass (l := []) HS.out⟩ ⟨Sep.start _⟩ HA670).mono ?_
          rintro e_ w781 ⟨rfl, hS⟩
          replace HS : Aside0 (Sep (fps []) w [b8 g521 a517 a518 a519 a520, b9 g524 0 0 0 0 0 0 0 0, b10 g695 a517 a518, b9 g772 0 0 0 0 0 0 0 0, b11 g777 24 a519 t643] w781) := ⟨HS.out.call hS⟩
          clear hS
          refine ⟨_, rfl, ?_⟩
          refine hK.out _ _ (⟨blk_cellv (HS.out.at0) 2 rfl, blk_cellv (HS.out.at0) 0 rfl, blk_cellv (HS.out.at0) 1 rfl⟩) (fun hHeld => ?_)
          clear hK K
          refine norm_ (a' := ?_) ?_ ?_
          rotate_left
          · show Act.put _ (some 21) _ = _
            simp only [Act.put, List.setIfInBounds_toArray, List.set_cons_zero, List.set_cons_succ, i64_w, i32_w]
            rfl
          refine pure_ (i := 13) (N := some 25) (v := ?_) (a' := ?_) #[true, true, true, true, true, true, true, true, true, true, true, true, true, true, true, false] rfl rfl (by kernel_rfl) (fun _ _ _ h => h) (Or.inl ⟨by rfl, ?_⟩) ?_ ?_
          rotate_left
          · intro w'
            go_simp
            with_reducible rfl
          rotate_left
          · simp only [Act.put, List.setIfInBounds_toArray, List.set_cons_zero, List.set_cons_succ, i64_w, i32_w]
            rfl
          refine one_ (i := 15) (N := none) #[true, true, true, true, true, true, true, true, true, true, true, true, true, true, true, true] rfl rfl (by kernel_rfl) (by decide) (fun K hK => ?_)
          have hc783 := blk_cellv (v := .int .i64 0) (HS.out.at3) 0 rfl
          have hz784 := blk_fz (HS.out.at3) 0
          have hc785 := blk_cellv (v := .int .i64 0) (HS.out.at3) 1 rfl
          have hz786 := blk_fz (HS.out.at3) 1
          have hc787 := blk_cellv (v := .int .i64 0) (HS.out.at3) 2 rfl
          have hz788 := blk_fz (HS.out.at3) 2
          have hc789 := blk_cellv (v := .int .i64 0) (HS.out.at3) 3 rfl
          have hz790 := blk_fz (HS.out.at3) 3
          have hc791 := blk_cellv (v := .int .i64 0) (HS.out.at3) 4 rfl
          have hz792 := blk_fz (HS.out.at3) 4
          have hc793 := blk_cellv (v := .int .i64 0) (HS.out.at3) 5 rfl
          have hz794 := blk_fz (HS.out.at3) 5
          have hc795 := blk_cellv (v := .int .i64 0) (HS.out.at3) 6 rfl
          have hz796 := blk_fz (HS.out.at3) 6
          have hc797 := blk_cellv (v := .int .i64 0) (HS.out.at3) 7 rfl
          have hz798 := blk_fz (HS.out.at3) 7
          refine store_step (w1 := (World.setCell (World.setCell (World.setCell (World.setCell (World.setCell (World.setCell (World.setCell (World.setCell w781 ⟨g772, 0, none⟩ (.int .i64 t669)) ⟨g772, 1, none⟩ (.int .i64 (wrap64 (a518 - 8)))) ⟨g772, 2, none⟩ (.int .i64 0)) ⟨g772, 3, none⟩ (.int .i64 0)) ⟨g772, 4, none⟩ (.int .i64 0)) ⟨g772, 5, none⟩ (.int .i64 0)) ⟨g772, 6, none⟩ (.int .i64 0)) ⟨g772, 7, none⟩ (.int .i64 0))) (by rfl) rfl ?hr ?_
          case hr => first | (go_simp; done) | (go_simp; rfl)
          clear hc783 hz784 hc785 hz786 hc787 hz788 hc789 hz790 hc791 hz792 hc793 hz794 hc795 hz796 hc797 hz798
          intro w782 hst
          replace HS : Aside0 (Sep (fps []) w [b8 g521 a517 a518 a519 a520, b9 g524 0 0 0 0 0 0 0 0, b10 g695 a517 a518, b9 g772 t669 (wrap64 (a518 - 8)) 0 0 0 0 0 0, b11 g777 24 a519 t643] w782) := ⟨by rw [hst]; exact HS.out.setAll (l1 := [b8 g521 a517 a518 a519 a520, b9 g524 0 0 0 0 0 0 0 0, b10 g695 a517 a518]) (l2 := [b11 g777 24 a519 t643]) [.int .i64 t669, .int .i64 (wrap64 (a518 - 8)), .int .i64 0, .int .i64 0, .int .i64 0, .int .i64 0, .int .i64 0, .int .i64 0] rfl⟩
          clear hst
          refine hK.out _ _ (⟨blk_cellv (HS.out.at0) 2 rfl, blk_cellv (HS.out.at0) 0 rfl, blk_cellv (HS.out.at0) 1 rfl⟩) (fun hHeld => ?_)
          clear hK K
          refine done_ (by kernel_rfl) ?_
          go_wp2_with fail
          go_meet
          case rel => exact ⟨g695, g777, g772, (by first | rfl | (simp [IntKind.wrap_u32]; done)), ⟨(((((HS.out).front 3 (by simp)).front 4 (by simp)).front 4 (by simp)).front 4 (by simp)).front 4 (by simp)⟩⟩
      · refine box_step (by rfl) (N := 5) rfl (cs := #[.int .i64 0, .int .i64 0, .int .i64 0, .int .i64 0, .int .i64 0, .int .i64 0, .int .i64 0, .int .i64 0]) (t := 97) ?hr ?_
        case hr => first | (go_simp; done) | (go_simp; rfl)
        intro g799 hg w800 hbox hb
        replace HS : Aside0 (Sep (fps []) w [b8 g521 a517 a518 a519 a520, b9 g524 0 0 0 0 0 0 0 0, b9 g799 0 0 0 0 0 0 0 0] w800) := ⟨HS.out.box hg hbox hb⟩
        clear hg hbox hb
        refine hK.out _ _ (⟨blk_cellv (HS.out.at0) 2 rfl, blk_cellv (HS.out.at0) 0 rfl, blk_cellv (HS.out.at0) 1 rfl⟩) (fun hHeld => ?_)
        clear hK K
        refine norm_ (a' := ?_) ?_ ?_
        rotate_left
        · show Act.put _ (some 5) _ = _
          simp only [Act.put, List.setIfInBounds_toArray, List.set_cons_zero, List.set_cons_succ, i64_w, i32_w]
          rfl
        refine one_ (i := 6) (N := some 18) #[true, true, true, true, true, true, true, false, false, false, true, true, true, false, true, false] rfl rfl (by kernel_rfl) (by decide) (fun K hK => ?_)
        refine slice_step (n := 2) (by rfl) (N := 18) rfl (cs := #[.int .i64 a517, .int .i64 a518]) (t := 3) ?hr ?_
        case hr => first | (go_simp; done) | (go_simp; rfl)
        intro g802 hg w803 hbox hb
        replace HS : Aside0 (Sep (fps []) w [b8 g521 a517 a518 a519 a520, b9 g524 0 0 0 0 0 0 0 0, b9 g799 0 0 0 0 0 0 0 0, b10 g802 a517 a518] w803) := ⟨HS.out.box hg hbox hb⟩
        clear hg hbox hb
        refine hK.out _ _ (⟨blk_cellv (HS.out.at0) 2 rfl, blk_cellv (HS.out.at0) 0 rfl, blk_cellv (HS.out.at0) 1 rfl⟩) (fun hHeld => ?_)
        clear hK K
        refine norm_ (a' := ?_) ?_ ?_
        rotate_left
        · show Act.put _ (some 18) _ = _
          simp only [Act.put, List.setIfInBounds_toArray, List.set_cons_zero, List.set_cons_succ, i64_w, i32_w]
          rfl
        refine one_ (i := 7) (N := some 19) #[true, true, true, true, true, true, true, true, false, false, true, true, true, false, true, false] rfl rfl (by kernel_rfl) (by decide) (fun K hK => ?_)
        refine goes_ Tryd.func123 (by kernel_rfl) rfl #[.slice (some ⟨g802, 0, none⟩) 2 2] (by rfl) rfl rfl (by (try simp only [List.map_toArray, List.map_cons, List.map_nil]); first | done | rfl) ?_
        refine (ratio_Mul.calls _ [a517, a518] (some ⟨g802, 0, none⟩) 2 t643 _ ⟨Rd.lit (l := []) (xs := [a517, a518]) HS.out 3 rfl (by simp)⟩ ⟨HGl0.out.pass (l := []) HS.out⟩ ⟨Sep.start _⟩ HA644).mono ?_
        rintro e_ w806 ⟨rfl, hS⟩
        replace HS : Aside0 (Sep (fps []) w [b8 g521 a517 a518 a519 a520, b9 g524 0 0 0 0 0 0 0 0, b9 g799 0 0 0 0 0 0 0 0, b10 g802 a517 a518] w806) := ⟨HS.out.call hS⟩
        clear hS
        refine ⟨_, rfl, ?_⟩
        refine hK.out _ _ (⟨blk_cellv (HS.out.at0) 2 rfl, blk_cellv (HS.out.at0) 0 rfl, blk_cellv (HS.out.at0) 1 rfl⟩) (fun hHeld => ?_)
        clear hK K
        refine norm_ (a' := ?_) ?_ ?_
        rotate_left
        · show Act.put _ (some 19) _ = _
          simp only [Act.put, List.setIfInBounds_toArray, List.set_cons_zero, List.set_cons_succ, i64_w, i32_w]
          rfl
        refine one_ (i := 8) (N := some 20) #[true, true, true, true, true, true, true, true, true, false, true, true, true, false, true, false] rfl rfl (by kernel_rfl) (by decide) (fun K hK => ?_)
        refine slice_step (n := 3) (by rfl) (N := 20) rfl (cs := #[.int .i64 24, .int .i64 a519, .int .i64 t643]) (t := 3) ?hr ?_
        case hr => first | (go_simp; done) | (go_simp; rfl)
        intro g807 hg w808 hbox hb
        replace HS : Aside0 (Sep (fps []) w [b8 g521 a517 a518 a519 a520, b9 g524 0 0 0 0 0 0 0 0, b9 g799 0 0 0 0 0 0 0 0, b10 g802 a517 a518, b11 g807 24 a519 t643] w808) := ⟨HS.out.box hg hbox hb⟩
        clear hg hbox hb
        refine hK.out _ _ (⟨blk_cellv (HS.out.at0) 2 rfl, blk_cellv (HS.out.at0) 0 rfl, blk_cellv (HS.out.at0) 1 rfl⟩) (fun hHeld => ?_)
        clear hK K
        refine norm_ (a' := ?_) ?_ ?_
        rotate_left
        · show Act.put _ (some 20) _ = _
          simp only [Act.put, List.setIfInBounds_toArray, List.set_cons_zero, List.set_cons_succ, i64_w, i32_w]
          rfl
        refine one_ (i := 9) (N := some 21) #[true, true, true, true, true, true, true, true, true, true, true, true, true, false, true, false] rfl rfl (by kernel_rfl) (by decide) (fun K hK => ?_)
        refine goes_ Tryd.func122 (by kernel_rfl) rfl #[.slice (some ⟨g807, 0, none⟩) 3 3] (by rfl) rfl rfl (by (try simp only [List.map_toArray, List.map_cons, List.map_nil]); first | done | rfl) ?_
        refine (ratio_Add.calls _ [24, a519, t643] (some ⟨g807, 0, none⟩) 3 t669 _ ⟨Rd.lit (l := []) (xs := [24, a519, t643]) HS.out 4 rfl (by simp)⟩ ⟨HGl0.out.pass (l := []) HS.out⟩ ⟨Sep.start _⟩ HA670).mono ?_
        rintro e_ w811 ⟨rfl, hS⟩
        replace HS : Aside0 (Sep (fps []) w [b8 g521 a517 a518 a519 a520, b9 g524 0 0 0 0 0 0 0 0, b9 g799 0 0 0 0 0 0 0 0, b10 g802 a517 a518, b11 g807 24 a519 t643] w811) := ⟨HS.out.call hS⟩
        clear hS
        refine ⟨_, rfl, ?_⟩
        refine hK.out _ _ (⟨blk_cellv (HS.out.at0) 2 rfl, blk_cellv (HS.out.at0) 0 rfl, blk_cellv (HS.out.at0) 1 rfl⟩) (fun hHeld => ?_)
        clear hK K
        refine norm_ (a' := ?_) ?_ ?_
        rotate_left
        · show Act.put _ (some 21) _ = _
          simp only [Act.put, List.setIfInBounds_toArray, List.set_cons_zero, List.set_cons_succ, i64_w, i32_w]
          rfl
        refine pure_ (i := 13) (N := some 25) (v := ?_) (a' := ?_) #[true, true, true, true, true, true, true, true, true, true, true, true, true, true, true, false] rfl rfl (by kernel_rfl) (fun _ _ _ h => h) (Or.inl ⟨by rfl, ?_⟩) ?_ ?_
        rotate_left
        · intro w'
          go_simp
          with_reducible rfl
        rotate_left
        · simp only [Act.put, List.setIfInBounds_toArray, List.set_cons_zero, List.set_cons_succ, i64_w, i32_w]
          rfl
        refine one_ (i := 15) (N := none) #[true, true, true, true, true, true, true, true, true, true, true, true, true, true, true, true] rfl rfl (by kernel_rfl) (by decide) (fun K hK => ?_)
        have hc813 := blk_cellv (v := .int .i64 0) (HS.out.at2) 0 rfl
        have hz814 := blk_fz (HS.out.at2) 0
        have hc815 := blk_cellv (v := .int .i64 0) (HS.out.at2) 1 rfl
        have hz816 := blk_fz (HS.out.at2) 1
        have hc817 := blk_cellv (v := .int .i64 0) (HS.out.at2) 2 rfl
        have hz818 := blk_fz (HS.out.at2) 2
        have hc819 := blk_cellv (v := .int .i64 0) (HS.out.at2) 3 rfl
        have hz820 := blk_fz (HS.out.at2) 3
        have hc821 := blk_cellv (v := .int .i64 0) (HS.out.at2) 4 rfl
        have hz822 := blk_fz (HS.out.at2) 4
        have hc823 := blk_cellv (v := .int .i64 0) (HS.out.at2) 5 rfl
        have hz824 := blk_fz (HS.out.at2) 5
        have hc825 := blk_cellv (v := .int .i64 0) (HS.out.at2) 6 rfl
        have hz826 := blk_fz (HS.out.at2) 6
        have hc827 := blk_cellv (v := .int .i64 0) (HS.out.at2) 7 rfl
        have hz828 := blk_fz (HS.out.at2) 7
        refine store_step (w1 := (World.setCell (World.setCell (World.setCell (World.setCell (World.setCell (World.setCell (World.setCell (World.setCell w811 ⟨g799, 0, none⟩ (.int .i64 t669)) ⟨g799, 1, none⟩ (.int .i64 (wrap64 (a518 - 8)))) ⟨g799, 2, none⟩ (.int .i64 0)) ⟨g799, 3, none⟩ (.int .i64 0)) ⟨g799, 4, none⟩ (.int .i64 0)) ⟨g799, 5, none⟩ (.int .i64 0)) ⟨g799, 6, none⟩ (.int .i64 0)) ⟨g799, 7, none⟩ (.int .i64 0))) (by rfl) rfl ?hr ?_
        case hr => first | (go_simp; done) | (go_simp; rfl)
        clear hc813 hz814 hc815 hz816 hc817 hz818 hc819 hz820 hc821 hz822 hc823 hz824 hc825 hz826 hc827 hz828
        intro w812 hst
        replace HS : Aside0 (Sep (fps []) w [b8 g521 a517 a518 a519 a520, b9 g524 0 0 0 0 0 0 0 0, b9 g799 t669 (wrap64 (a518 - 8)) 0 0 0 0 0 0, b10 g802 a517 a518, b11 g807 24 a519 t643] w812) := ⟨by rw [hst]; exact HS.out.setAll (l1 := [b8 g521 a517 a518 a519 a520, b9 g524 0 0 0 0 0 0 0 0]) (l2 := [b10 g802 a517 a518, b11 g807 24 a519 t643]) [.int .i64 t669, .int .i64 (wrap64 (a518 - 8)), .int .i64 0, .int .i64 0, .int .i64 0, .int .i64 0, .int .i64 0, .int .i64 0] rfl⟩
        clear hst
        refine hK.out _ _ (⟨blk_cellv (HS.out.at0) 2 rfl, blk_cellv (HS.out.at0) 0 rfl, blk_cellv (HS.out.at0) 1 rfl⟩) (fun hHeld => ?_)
        clear hK K
        refine done_ (by kernel_rfl) ?_
        go_wp2_with fail
        go_meet
        case rel => exact ⟨g802, g807, g799, (by first | rfl | (simp [IntKind.wrap_u32]; done)), ⟨(((((HS.out).front 2 (by simp)).front 4 (by simp)).front 4 (by simp)).front 4 (by simp)).front 4 (by simp)⟩⟩
    case rest =>
      clear HS
      obtain ⟨g573, g646, g672, rfl, HS⟩ := hcut
      obtain ⟨w692, rfl⟩ : ∃ x : World, x = wc := ⟨_, rfl⟩
      replace HS : Aside0 (Sep (fps []) w [b8 g521 a517 a518 a519 a520, b9 g524 0 0 0 0 0 0 0 0, b9 g672 t669 (wrap64 (a518 - 8)) 0 0 0 0 0 0] w692) := ⟨HS.out.sub (.cons_cons _ (.cons_cons _ (.cons _ (.cons _ (.cons_cons _ .slnil)))))⟩
      have hc829 : w692.cell? ⟨g672, 1, none⟩ = some (.int .i64 (wrap64 (a518 - 8))) := blk_cellv (HS.out.at2) 1 rfl
      have hc830 : w692.cell? ⟨g672, 2, none⟩ = some (.int .i64 0) := blk_cellv (HS.out.at2) 2 rfl
      have hz831 : w692.frozen? ⟨g672, 2, none⟩ = false := blk_fz (HS.out.at2) 2
      go_wp2_with (first | ((with_reducible refine gate_store (t := 3) (p := 29) rfl ?_); refine store_event (w1 := (World.setCell w692 ⟨g672, 2, none⟩ (.int .i64 (wrap64 ((wrap64 (a518 - 8)) + 1))))) rfl (t := 3) (p := 29) rfl rfl ?hr ?_; (case hr => first | (go_simp; done) | (go_simp; rfl)); intro w832 hst; clear hc829 hc830 hz831; have hq0 : Sep (fps []) w [b8 g521 a517 a518 a519 a520, b9 g524 0 0 0 0 0 0 0 0, b9 g672 t669 (wrap64 (a518 - 8)) (wrap64 ((wrap64 (a518 - 8)) + 1)) 0 0 0 0 0] (World.setCell w692 ⟨g672, 2, none⟩ (.int .i64 (wrap64 ((wrap64 (a518 - 8)) + 1)))) := (HS.out).set1 (l1 := [b8 g521 a517 a518 a519 a520, b9 g524 0 0 0 0 0 0 0 0]) (l2 := []) 2 (.int .i64 (wrap64 ((wrap64 (a518 - 8)) + 1))); replace HS : Aside0 (Sep (fps []) w [b8 g521 a517 a518 a519 a520, b9 g524 0 0 0 0 0 0 0 0, b9 g672 t669 (wrap64 (a518 - 8)) (wrap64 ((wrap64 (a518 - 8)) + 1)) 0 0 0 0 0] w832) := ⟨by rw [hst]; exact hq0⟩; clear hq0; clear hst; have hc833 : w832.cell? ⟨g672, 1, none⟩ = some (.int .i64 (wrap64 (a518 - 8))) := blk_cellv (HS.out.at2) 1 rfl; have hc834 : w832.cell? ⟨g521, 1, none⟩ = some (.int .i64 a518) := blk_cellv (HS.out.at0) 1 rfl) | ((with_reducible refine gate_dst (N := 35) rfl ?_); refine slice_on (n := 2) ?hg (N := 35) ?hd (cs := #[.int .i64 (wrap64 (a518 - 8)), .int .i64 (wrap64 (a518 - 1))]) (t := 3) ?hr ?_; (case hd => rfl); (case hg => rfl); (case hr => first | (go_simp; done) | (go_simp; rfl)); intro g835 hg w836 hbox hb; clear hc833 hc834; replace HS : Aside0 (Sep (fps []) w [b8 g521 a517 a518 a519 a520, b9 g524 0 0 0 0 0 0 0 0, b9 g672 t669 (wrap64 (a518 - 8)) (wrap64 ((wrap64 (a518 - 8)) + 1)) 0 0 0 0 0, b10 g835 (wrap64 (a518 - 8)) (wrap64 (a518 - 1))] w836) := ⟨HS.out.box hg hbox hb⟩; clear hg hbox hb))
      obtain ⟨t838, HA839, H⟩ := bind_some H
      refine (ratio_Mul.calls _ [wrap64 (a518 - 8), wrap64 (a518 - 1)] (some ⟨g835, 0, none⟩) 2 t838 _ ⟨Rd.lit (l := []) (xs := [wrap64 (a518 - 8), wrap64 (a518 - 1)]) HS.out 3 rfl (by simp)⟩ ⟨HGl0.out.pass (l := []) HS.out⟩ ⟨Sep.start _⟩ HA839).mono ?_
      rintro e_ w840 ⟨rfl, hS⟩
      replace HS : Aside0 (Sep (fps []) w [b8 g521 a517 a518 a519 a520, b9 g524 0 0 0 0 0 0 0 0, b9 g672 t669 (wrap64 (a518 - 8)) (wrap64 ((wrap64 (a518 - 8)) + 1)) 0 0 0 0 0, b10 g835 (wrap64 (a518 - 8)) (wrap64 (a518 - 1))] w840) := ⟨HS.out.call hS⟩
      clear hS
      have hc841 : w840.cell? ⟨g672, 3, none⟩ = some (.int .i64 0) := blk_cellv (HS.out.at2) 3 rfl
      have hz842 : w840.frozen? ⟨g672, 3, none⟩ = false := blk_fz (HS.out.at2) 3
      go_wp2_with (first | ((with_reducible refine gate_store (t := 3) (p := 37) rfl ?_); refine store_event (w1 := (World.setCell w840 ⟨g672, 3, none⟩ (.int .i64 t838))) rfl (t := 3) (p := 37) rfl rfl ?hr ?_; (case hr => first | (go_simp; done) | (go_simp; rfl)); intro w843 hst; clear hc841 hz842; have hq0 : Sep (fps []) w [b8 g521 a517 a518 a519 a520, b9 g524 0 0 0 0 0 0 0 0, b9 g672 t669 (wrap64 (a518 - 8)) (wrap64 ((wrap64 (a518 - 8)) + 1)) t838 0 0 0 0, b10 g835 (wrap64 (a518 - 8)) (wrap64 (a518 - 1))] (World.setCell w840 ⟨g672, 3, none⟩ (.int .i64 t838)) := (HS.out).set1 (l1 := [b8 g521 a517 a518 a519 a520, b9 g524 0 0 0 0 0 0 0 0]) (l2 := [b10 g835 (wrap64 (a518 - 8)) (wrap64 (a518 - 1))]) 3 (.int .i64 t838); replace HS : Aside0 (Sep (fps []) w [b8 g521 a517 a518 a519 a520, b9 g524 0 0 0 0 0 0 0 0, b9 g672 t669 (wrap64 (a518 - 8)) (wrap64 ((wrap64 (a518 - 8)) + 1)) t838 0 0 0 0, b10 g835 (wrap64 (a518 - 8)) (wrap64 (a518 - 1))] w843) := ⟨by rw [hst]; exact hq0⟩; clear hq0; clear hst; replace HS : Aside0 (Sep (fps []) w [b8 g521 a517 a518 a519 a520, b9 g524 0 0 0 0 0 0 0 0, b9 g672 t669 (wrap64 (a518 - 8)) (wrap64 ((wrap64 (a518 - 8)) + 1)) t838 0 0 0 0] w843) := ⟨HS.out.sub (.cons_cons _ (.cons_cons _ (.cons_cons _ (.cons _ .slnil))))⟩; have hc844 : w843.cell? ⟨g521, 0, none⟩ = some (.int .i64 a517) := blk_cellv (HS.out.at0) 0 rfl; have hc845 : w843.cell? ⟨g521, 1, none⟩ = some (.int .i64 a518) := blk_cellv (HS.out.at0) 1 rfl) | ((with_reducible refine gate_dst (N := 43) rfl ?_); refine slice_on (n := 2) ?hg (N := 43) ?hd (cs := #[.int .i64 a517, .int .i64 (wrap64 (a518 + 1))]) (t := 3) ?hr ?_; (case hd => rfl); (case hg => rfl); (case hr => first | (go_simp; done) | (go_simp; rfl)); intro g846 hg w847 hbox hb; clear hc844 hc845; replace HS : Aside0 (Sep (fps []) w [b8 g521 a517 a518 a519 a520, b9 g524 0 0 0 0 0 0 0 0, b9 g672 t669 (wrap64 (a518 - 8)) (wrap64 ((wrap64 (a518 - 8)) + 1)) t838 0 0 0 0, b10 g846 a517 (wrap64 (a518 + 1))] w847) := ⟨HS.out.box hg hbox hb⟩; clear hg hbox hb))
      obtain ⟨t849, HA850, H⟩ := bind_some H
      refine (ratio_Mul.calls _ [a517, wrap64 (a518 + 1)] (some ⟨g846, 0, none⟩) 2 t849 _ ⟨Rd.lit (l := []) (xs := [a517, wrap64 (a518 + 1)]) HS.out 3 rfl (by simp)⟩ ⟨HGl0.out.pass (l := []) HS.out⟩ ⟨Sep.start _⟩ HA850).mono ?_
      rintro e_ w851 ⟨rfl, hS⟩
      replace HS : Aside0 (Sep (fps []) w [b8 g521 a517 a518 a519 a520, b9 g524 0 0 0 0 0 0 0 0, b9 g672 t669 (wrap64 (a518 - 8)) (wrap64 ((wrap64 (a518 - 8)) + 1)) t838 0 0 0 0, b10 g846 a517 (wrap64 (a518 + 1))] w851) := ⟨HS.out.call hS⟩
      clear hS
      have hc852 : w851.cell? ⟨g672, 5, none⟩ = some (.int .i64 0) := blk_cellv (HS.out.at2) 5 rfl
      have hz853 : w851.frozen? ⟨g672, 5, none⟩ = false := blk_fz (HS.out.at2) 5
      go_wp2_with (first | ((with_reducible refine gate_store (t := 3) (p := 45) rfl ?_); refine store_event (w1 := (World.setCell w851 ⟨g672, 5, none⟩ (.int .i64 t849))) rfl (t := 3) (p := 45) rfl rfl ?hr ?_; (case hr => first | (go_simp; done) | (go_simp; rfl)); intro w854 hst; clear hc852 hz853; have hq0 : Sep (fps []) w [b8 g521 a517 a518 a519 a520, b9 g524 0 0 0 0 0 0 0 0, b9 g672 t669 (wrap64 (a518 - 8)) (wrap64 ((wrap64 (a518 - 8)) + 1)) t838 0 t849 0 0, b10 g846 a517 (wrap64 (a518 + 1))] (World.setCell w851 ⟨g672, 5, none⟩ (.int .i64 t849)) := (HS.out).set1 (l1 := [b8 g521 a517 a518 a519 a520, b9 g524 0 0 0 0 0 0 0 0]) (l2 := [b10 g846 a517 (wrap64 (a518 + 1))]) 5 (.int .i64 t849); replace HS : Aside0 (Sep (fps []) w [b8 g521 a517 a518 a519 a520, b9 g524 0 0 0 0 0 0 0 0, b9 g672 t669 (wrap64 (a518 - 8)) (wrap64 ((wrap64 (a518 - 8)) + 1)) t838 0 t849 0 0, b10 g846 a517 (wrap64 (a518 + 1))] w854) := ⟨by rw [hst]; exact hq0⟩; clear hq0; clear hst; replace HS : Aside0 (Sep (fps []) w [b8 g521 a517 a518 a519 a520, b9 g524 0 0 0 0 0 0 0 0, b9 g672 t669 (wrap64 (a518 - 8)) (wrap64 ((wrap64 (a518 - 8)) + 1)) t838 0 t849 0 0] w854) := ⟨HS.out.sub (.cons_cons _ (.cons_cons _ (.cons_cons _ (.cons _ .slnil))))⟩; have hc855 : w854.cell? ⟨g672, 5, none⟩ = some (.int .i64 t849) := blk_cellv (HS.out.at2) 5 rfl) | ((with_reducible refine gate_dst (N := 48) rfl ?_); refine slice_on (n := 2) ?hg (N := 48) ?hd (cs := #[.int .i64 3, .int .i64 t849]) (t := 3) ?hr ?_; (case hd => rfl); (case hg => rfl); (case hr => first | (go_simp; done) | (go_simp; rfl)); intro g856 hg w857 hbox hb; clear hc855; replace HS : Aside0 (Sep (fps []) w [b8 g521 a517 a518 a519 a520, b9 g524 0 0 0 0 0 0 0 0, b9 g672 t669 (wrap64 (a518 - 8)) (wrap64 ((wrap64 (a518 - 8)) + 1)) t838 0 t849 0 0, b10 g856 3 t849] w857) := ⟨HS.out.box hg hbox hb⟩; clear hg hbox hb))
      obtain ⟨t859, HA860, H⟩ := bind_some H
      refine (ratio_Mul.calls _ [3, t849] (some ⟨g856, 0, none⟩) 2 t859 _ ⟨Rd.lit (l := []) (xs := [3, t849]) HS.out 3 rfl (by simp)⟩ ⟨HGl0.out.pass (l := []) HS.out⟩ ⟨Sep.start _⟩ HA860).mono ?_
      rintro e_ w861 ⟨rfl, hS⟩
      replace HS : Aside0 (Sep (fps []) w [b8 g521 a517 a518 a519 a520, b9 g524 0 0 0 0 0 0 0 0, b9 g672 t669 (wrap64 (a518 - 8)) (wrap64 ((wrap64 (a518 - 8)) + 1)) t838 0 t849 0 0, b10 g856 3 t849] w861) := ⟨HS.out.call hS⟩
      clear hS
      go_wp2_with (first | ((with_reducible refine gate_dst (N := 50) rfl ?_); refine slice_on (n := 2) ?hg (N := 50) ?hd (cs := #[.int .i64 t859, .int .i64 4]) (t := 3) ?hr ?_; (case hd => rfl); (case hg => rfl); (case hr => first | (go_simp; done) | (go_simp; rfl)); intro g862 hg w863 hbox hb; replace HS : Aside0 (Sep (fps []) w [b8 g521 a517 a518 a519 a520, b9 g524 0 0 0 0 0 0 0 0, b9 g672 t669 (wrap64 (a518 - 8)) (wrap64 ((wrap64 (a518 - 8)) + 1)) t838 0 t849 0 0, b10 g856 3 t849, b10 g862 t859 4] w863) := ⟨HS.out.box hg hbox hb⟩; clear hg hbox hb))
      obtain ⟨t865, HA866, H⟩ := bind_some H
      refine (ratio_Add.calls _ [t859, 4] (some ⟨g862, 0, none⟩) 2 t865 _ ⟨Rd.lit (l := []) (xs := [t859, 4]) HS.out 4 rfl (by simp)⟩ ⟨HGl0.out.pass (l := []) HS.out⟩ ⟨Sep.start _⟩ HA866).mono ?_
      rintro e_ w867 ⟨rfl, hS⟩
      replace HS : Aside0 (Sep (fps []) w [b8 g521 a517 a518 a519 a520, b9 g524 0 0 0 0 0 0 0 0, b9 g672 t669 (wrap64 (a518 - 8)) (wrap64 ((wrap64 (a518 - 8)) + 1)) t838 0 t849 0 0, b10 g856 3 t849, b10 g862 t859 4] w867) := ⟨HS.out.call hS⟩
      clear hS
      have hc868 : w867.cell? ⟨g672, 4, none⟩ = some (.int .i64 0) := blk_cellv (HS.out.at2) 4 rfl
      have hz869 : w867.frozen? ⟨g672, 4, none⟩ = false := blk_fz (HS.out.at2) 4
      go_wp2_with (first | ((with_reducible refine gate_store (t := 3) (p := 52) rfl ?_); refine store_event (w1 := (World.setCell w867 ⟨g672, 4, none⟩ (.int .i64 t865))) rfl (t := 3) (p := 52) rfl rfl ?hr ?_; (case hr => first | (go_simp; done) | (go_simp; rfl)); intro w870 hst; clear hc868 hz869; have hq0 : Sep (fps []) w [b8 g521 a517 a518 a519 a520, b9 g524 0 0 0 0 0 0 0 0, b9 g672 t669 (wrap64 (a518 - 8)) (wrap64 ((wrap64 (a518 - 8)) + 1)) t838 t865 t849 0 0, b10 g856 3 t849, b10 g862 t859 4] (World.setCell w867 ⟨g672, 4, none⟩ (.int .i64 t865)) := (HS.out).set1 (l1 := [b8 g521 a517 a518 a519 a520, b9 g524 0 0 0 0 0 0 0 0]) (l2 := [b10 g856 3 t849, b10 g862 t859 4]) 4 (.int .i64 t865); replace HS : Aside0 (Sep (fps []) w [b8 g521 a517 a518 a519 a520, b9 g524 0 0 0 0 0 0 0 0, b9 g672 t669 (wrap64 (a518 - 8)) (wrap64 ((wrap64 (a518 - 8)) + 1)) t838 t865 t849 0 0, b10 g856 3 t849, b10 g862 t859 4] w870) := ⟨by rw [hst]; exact hq0⟩; clear hq0; clear hst; replace HS : Aside0 (Sep (fps []) w [b8 g521 a517 a518 a519 a520, b9 g524 0 0 0 0 0 0 0 0, b9 g672 t669 (wrap64 (a518 - 8)) (wrap64 ((wrap64 (a518 - 8)) + 1)) t838 t865 t849 0 0] w870) := ⟨HS.out.sub (.cons_cons _ (.cons_cons _ (.cons_cons _ (.cons _ (.cons _ .slnil)))))⟩))
      obtain ⟨t873, HA874, H⟩ := bind_some H
      obtain ⟨t879, HA880, H⟩ := bind_some H
      obtain ⟨t885, HA886, H⟩ := bind_some H
      obtain ⟨t891, HA892, H⟩ := bind_some H
      go_cut [] (fun wc => ∃ (g876 : Nat) (g882 : Nat) (g888 : Nat), Aside0 (Sep (fps []) w [b8 g521 a517 a518 a519 a520, b9 g524 0 0 0 0 0 0 0 0, b9 g672 t669 (wrap64 (a518 - 8)) (wrap64 ((wrap64 (a518 - 8)) + 1)) t838 t865 t849 t891 0, b10 g876 2 t873, b10 g882 2 (wrap64 ((wrap64 (a518 - 8)) + 1)), b10 g888 t879 t885] wc))
      case first =>
        go_wp2_with fail
        refine start_ (n := 15) (S := (fun w' => w'.cell? ⟨g672, 4, none⟩ = some (.int .i64 t865) ∧ w'.cell? ⟨g521, 3, none⟩ = some (.int .i64 a520) ∧ w'.cell? ⟨g672, 2, none⟩ = some (.int .i64 (wrap64 ((wrap64 (a518 - 8)) + 1))))) (ds := []) #[false, false, false, false, false, false, false, false, false, false, false, false, false, false, false] (by kernel_rfl) rfl rfl (⟨blk_cellv ((HS.out.drew).at2) 4 rfl, blk_cellv ((HS.out.drew).at0) 3 rfl, blk_cellv ((HS.out.drew).at2) 2 rfl⟩) (fun hHeld => ?_)
        have HS_ := Aside0.mk HS.out.drew
        clear HS
        generalize World.drew _ = w899 at HS_ hHeld ⊢
        have HS := HS_
        clear HS_
        refine pure_ (i := 0) (N := some 53) (v := ?_) (a' := ?_) #[true, false, false, false, false, false, false, false, false, false, false, false, false, false, false] rfl rfl (by kernel_rfl) (fun _ _ _ h => h) (Or.inl ⟨by rfl, ?_⟩) ?_ ?_
        rotate_left
        · intro w'
          go_simp
          with_reducible rfl
        rotate_left
        · simp only [Act.put, List.setIfInBounds_toArray, List.set_cons_zero, List.set_cons_succ, i64_w, i32_w]
          rfl
        refine pure_ (i := 2) (N := some 55) (v := ?_) (a' := ?_) #[true, false, true, false, false, false, false, false, false, false, false, false, false, false, false] rfl rfl (by kernel_rfl) (fun _ _ _ h => h) (Or.inl ⟨by rfl, ?_⟩) ?_ ?_
        rotate_left
        · intro w'
          go_simp
          with_reducible rfl
        rotate_left
        · simp only [Act.put, List.setIfInBounds_toArray, List.set_cons_zero, List.set_cons_succ, i64_w, i32_w]
          rfl
        refine pure_ (i := 7) (N := some 60) (v := ?_) (a' := ?_) #[true, false, true, false, false, false, false, true, false, false, false, false, false, false, false] rfl rfl (by kernel_rfl) (fun _ _ _ h => h) (Or.inl ⟨by rfl, ?_⟩) ?_ ?_
        rotate_left
        · intro w'
          go_simp
          with_reducible rfl
        rotate_left
        · simp only [Act.put, List.setIfInBounds_toArray, List.set_cons_zero, List.set_cons_succ, i64_w, i32_w]
          rfl
        refine take_ (i := 1) (N := some 54) (v := ?_) (a' := ?_) #[true, true, true, false, false, false, false, true, false, false, false, false, false, false, false] rfl rfl (by kernel_rfl) (fun _ _ _ h => h) (Or.inl ⟨by rfl, ?_⟩) hHeld ?_ ?_
        rotate_left
        · rintro w' hS'
          obtain ⟨s0, s1, s2⟩ := hS'
          go_simp
          with_reducible rfl
        rotate_left
        · simp only [Act.put, List.setIfInBounds_toArray, List.set_cons_zero, List.set_cons_succ, i64_w, i32_w]
          rfl
        refine take_ (i := 3) (N := some 56) (v := ?_) (a' := ?_) #[true, true, true, true, false, false, false, true, false, false, false, false, false, false, false] rfl rfl (by kernel_rfl) (fun _ _ _ h => h) (Or.inl ⟨by rfl, ?_⟩) hHeld ?_ ?_
        rotate_left
        · rintro w' hS'
          obtain ⟨s0, s1, s2⟩ := hS'
          go_simp
          with_reducible rfl
        rotate_left
        · simp only [Act.put, List.setIfInBounds_toArray, List.set_cons_zero, List.set_cons_succ, i64_w, i32_w]
          rfl
        refine take_ (i := 8) (N := some 61) (v := ?_) (a' := ?_) #[true, true, true, true, false, false, false, true, true, false, false, false, false, false, false] rfl rfl (by kernel_rfl) (fun _ _ _ h => h) (Or.inl ⟨by rfl, ?_⟩) hHeld ?_ ?_
        rotate_left
        · rintro w' hS'
          obtain ⟨s0, s1, s2⟩ := hS'
          go_simp
          with_reducible rfl
        rotate_left
        · simp only [Act.put, List.setIfInBounds_toArray, List.set_cons_zero, List.set_cons_succ, i64_w, i32_w]
          rfl
        refine two_ (i := 4) (j := 9) (Ni := some 57) (Nj := some 62) #[true, true, true, true, true, false, false, true, true, false, false, false, false, false, false] #[true, true, true, true, false, false, false, true, true, true, false, false, false, false, false] rfl rfl rfl rfl (by kernel_rfl) (by decide) (by decide) (fun K hK => ?_) (fun K hK => ?_)
        · refine goes_ Tryd.func124 (by kernel_rfl) rfl #[.int .i64 t865, .int .i64 a520] (by rfl) rfl rfl (by (try simp only [List.map_toArray, List.map_cons, List.map_nil]); first | done | rfl) ?_
          refine (ratio_Up.calls t865 a520 t873 _ ⟨HGl0.out.pass (l := []) HS.out⟩ ⟨Sep.start _⟩ HA874).mono ?_
          rintro e_ w901 ⟨rfl, hS⟩
          replace HS : Aside0 (Sep (fps []) w [b8 g521 a517 a518 a519 a520, b9 g524 0 0 0 0 0 0 0 0, b9 g672 t669 (wrap64 (a518 - 8)) (wrap64 ((wrap64 (a518 - 8)) + 1)) t838 t865 t849 0 0] w901) := ⟨HS.out.call hS⟩
          clear hS
          refine ⟨_, rfl, ?_⟩
          refine hK.out _ _ (⟨blk_cellv (HS.out.at2) 4 rfl, blk_cellv (HS.out.at0) 3 rfl, blk_cellv (HS.out.at2) 2 rfl⟩) (fun hHeld => ?_)
          clear hK K
          refine norm_ (a' := ?_) ?_ ?_
          rotate_left
          · show Act.put _ (some 57) _ = _
            simp only [Act.put, List.setIfInBounds_toArray, List.set_cons_zero, List.set_cons_succ, i64_w, i32_w]
            rfl
          refine two_ (i := 5) (j := 9) (Ni := some 58) (Nj := some 62) #[true, true, true, true, true, true, false, true, true, false, false, false, false, false, false] #[true, true, true, true, true, false, false, true, true, true, false, false, false, false, false] rfl rfl rfl rfl (by kernel_rfl) (by decide) (by decide) (fun K hK => ?_) (fun K hK => ?_)
          · refine slice_step (n := 2) (by rfl) (N := 58) rfl (cs := #[.int .i64 2, .int .i64 t873]) (t := 3) ?hr ?_
            case hr => first | (go_simp; done) | (go_simp; rfl)
            intro g902 hg w903 hbox hb
            replace HS : Aside0 (Sep (fps []) w [b8 g521 a517 a518 a519 a520, b9 g524 0 0 0 0 0 0 0 0, b9 g672 t669 (wrap64 (a518 - 8)) (wrap64 ((wrap64 (a518 - 8)) + 1)) t838 t865 t849 0 0, b10 g902 2 t873] w903) := ⟨HS.out.box hg hbox hb⟩
            clear hg hbox hb
            refine hK.out _ _ (⟨blk_cellv (HS.out.at2) 4 rfl, blk_cellv (HS.out.at0) 3 rfl, blk_cellv (HS.out.at2) 2 rfl⟩) (fun hHeld => ?_)
            clear hK K
            refine norm_ (a' := ?_) ?_ ?_
            rotate_left
            · show Act.put _ (some 58) _ = _
              simp only [Act.put, List.setIfInBounds_toArray, List.set_cons_zero, List.set_cons_succ, i64_w, i32_w]
              rfl
            refine two_ (i := 6) (j := 9) (Ni := some 59) (Nj := some 62) #[true, true, true, true, true, true, true, true, true, false, false, false, false, false, false] #[true, true, true, true, true, true, false, true, true, true, false, false, false, false, false] rfl rfl rfl rfl (by kernel_rfl) (by decide) (by decide) (fun K hK => ?_) (fun K hK => ?_)
            · refine goes_ Tryd.func123 (by kernel_rfl) rfl #[.slice (some ⟨g902, 0, none⟩) 2 2] (by rfl) rfl rfl (by (try simp only [List.map_toArray, List.map_cons, List.map_nil]); first | done | rfl) ?_
              refine (ratio_Mul.calls _ [2, t873] (some ⟨g902, 0, none⟩) 2 t879 _ ⟨Rd.lit (l := []) (xs := [2, t873]) HS.out 3 rfl (by simp)⟩ ⟨HGl0.out.pass (l := []) HS.out⟩ ⟨Sep.start _⟩ HA880).mono ?_
              rintro e_ w906 ⟨rfl, hS⟩
              replace HS : Aside0 (Sep (fps []) w [b8 g521 a517 a518 a519 a520, b9 g524 0 0 0 0 0 0 0 0, b9 g672 t669 (wrap64 (a518 - 8)) (wrap64 ((wrap64 (a518 - 8)) + 1)) t838 t865 t849 0 0, b10 g902 2 t873] w906) := ⟨HS.out.call hS⟩
              clear hS
              refine ⟨_, rfl, ?_⟩
              refine hK.out _ _ (⟨blk_cellv (HS.out.at2) 4 rfl, blk_cellv (HS.out.at0) 3 rfl, blk_cellv (HS.out.at2) 2 rfl⟩) (fun hHeld => ?_)
              clear hK K
              refine norm_ (a' := ?_) ?_ ?_
              rotate_left
              · show Act.put _ (some 59) _ = _
                simp only [Act.put, List.setIfInBounds_toArray, List.set_cons_zero, List.set_cons_succ, i64_w, i32_w]
                rfl
              refine one_ (i := 9) (N := some 62) #[true, true, true, true, true, true, true, true, true, true, false, false, false, false, false] rfl rfl (by kernel_rfl) (by decide) (fun K hK => ?_)
              refine slice_step (n := 2) (by rfl) (N := 62) rfl (cs := #[.int .i64 2, .int .i64 (wrap64 ((wrap64 (a518 - 8)) + 1))]) (t := 3) ?hr ?_
              case hr => first | (go_simp; done) | (go_simp; rfl)
              intro g907 hg w908 hbox hb
              replace HS : Aside0 (Sep (fps []) w [b8 g521 a517 a518 a519 a520, b9 g524 0 0 0 0 0 0 0 0, b9 g672 t669 (wrap64 (a518 - 8)) (wrap64 ((wrap64 (a518 - 8)) + 1)) t838 t865 t849 0 0, b10 g902 2 t873, b10 g907 2 (wrap64 ((wrap64 (a518 - 8)) + 1))] w908) := ⟨HS.out.box hg hbox hb⟩
              clear hg hbox hb
              refine hK.out _ _ (⟨blk_cellv (HS.out.at2) 4 rfl, blk_cellv (HS.out.at0) 3 rfl, blk_cellv (HS.out.at2) 2 rfl⟩) (fun hHeld => ?_)
              clear hK K
              refine norm_ (a' := ?_) ?_ ?_
              rotate_left
              · show Act.put _ (some 62) _ = _
                simp only [Act.put, List.setIfInBounds_toArray, List.set_cons_zero, List.set_cons_succ, i64_w, i32_w]
                rfl
              refine one_ (i := 10) (N := some 63) #[true, true, true, true, true, true, true, true, true, true, true, false, false, false, false] rfl rfl (by kernel_rfl) (by decide) (fun K hK => ?_)
              refine goes_ Tryd.func123 (by kernel_rfl) rfl #[.slice (some ⟨g907, 0, none⟩) 2 2] (by rfl) rfl rfl (by (try simp only [List.map_toArray, List.map_cons, List.map_nil]); first | done | rfl) ?_
              refine (ratio_Mul.calls _ [2, wrap64 ((wrap64 (a518 - 8)) + 1)] (some ⟨g907, 0, none⟩) 2 t885 _ ⟨Rd.lit (l := []) (xs := [2, wrap64 ((wrap64 (a518 - 8)) + 1)]) HS.out 4 rfl (by simp)⟩ ⟨HGl0.out.pass (l := []) HS.out⟩ ⟨Sep.start _⟩ HA886).mono ?_
              rintro e_ w911 ⟨rfl, hS⟩
              replace HS : Aside0 (Sep (fps []) w [b8 g521 a517 a518 a519 a520, b9 g524 0 0 0 0 0 0 0 0, b9 g672 t669 (wrap64 (a518 - 8)) (wrap64 ((wrap64 (a518 - 8)) + 1)) t838 t865 t849 0 0, b10 g902 2 t873, b10 g907 2 (wrap64 ((wrap64 (a518 - 8)) + 1))] w911) := ⟨HS.out.call hS⟩
              clear hS
              refine ⟨_, rfl, ?_⟩
              refine hK.out _ _ (⟨blk_cellv (HS.out.at2) 4 rfl, blk_cellv (HS.out.at0) 3 rfl, blk_cellv (HS.out.at2) 2 rfl⟩) (fun hHeld => ?_)
              clear hK K
              refine norm_ (a' := ?_) ?_ ?_
              rotate_left
              · show Act.put _ (some 63) _ = _
                simp only [Act.put, List.setIfInBounds_toArray, List.set_cons_zero, List.set_cons_succ, i64_w, i32_w]
                rfl
              refine one_ (i := 11) (N := some 64) #[true, true, true, true, true, true, true, true, true, true, true, true, false, false, false] rfl rfl (by kernel_rfl) (by decide) (fun K hK => ?_)
              refine slice_step (n := 2) (by rfl) (N := 64) rfl (cs := #[.int .i64 t879, .int .i64 t885]) (t := 3) ?hr ?_
              case hr => first | (go_simp; done) | (go_simp; rfl)
              intro g912 hg w913 hbox hb
              replace HS : Aside0 (Sep (fps []) w [b8 g521 a517 a518 a519 a520, b9 g524 0 0 0 0 0 0 0 0, b9 g672 t669 (wrap64 (a518 - 8)) (wrap64 ((wrap64 (a518 - 8)) + 1)) t838 t865 t849 0 0, b10 g902 2 t873, b10 g907 2 (wrap64 ((wrap64 (a518 - 8)) + 1)), b10 g912 t879 t885] w913) := ⟨HS.out.box hg hbox hb⟩
              clear hg hbox hb
              refine hK.out _ _ (⟨blk_cellv (HS.out.at2) 4 rfl, blk_cellv (HS.out.at0) 3 rfl, blk_cellv (HS.out.at2) 2 rfl⟩) (fun hHeld => ?_)
              clear hK K
              refine norm_ (a' := ?_) ?_ ?_
              rotate_left
              · show Act.put _ (some 64) _ = _
                simp only [Act.put, List.setIfInBounds_toArray, List.set_cons_zero, List.set_cons_succ, i64_w, i32_w]
                rfl
              refine one_ (i := 12) (N := some 65) #[true, true, true, true, true, true, true, true, true, true, true, true, true, false, false] rfl rfl (by kernel_rfl) (by decide) (fun K hK => ?_)
              refine goes_ Tryd.func122 (by kernel_rfl) rfl #[.slice (some ⟨g912, 0, none⟩) 2 2] (by rfl) rfl rfl (by (try simp only [List.map_toArray, List.map_cons, List.map_nil]); first | done | rfl) ?_
              refine (ratio_Add.calls _ [t879, t885] (some ⟨g912, 0, none⟩) 2 t891 _ ⟨Rd.lit (l := []) (xs := [t879, t885]) HS.out 5 rfl (by simp)⟩ ⟨HGl0.out.pass (l := []) HS.out⟩ ⟨Sep.start _⟩ HA892).mono ?_
              rintro e_ w916 ⟨rfl, hS⟩
              replace HS : Aside0 (Sep (fps []) w [b8 g521 a517 a518 a519 a520, b9 g524 0 0 0 0 0 0 0 0, b9 g672 t669 (wrap64 (a518 - 8)) (wrap64 ((wrap64 (a518 - 8)) + 1)) t838 t865 t849 0 0, b10 g902 2 t873, b10 g907 2 (wrap64 ((wrap64 (a518 - 8)) + 1)), b10 g912 t879 t885] w916) := ⟨HS.out.call hS⟩
              clear hS
              refine ⟨_, rfl, ?_⟩
              refine hK.out _ _ (⟨blk_cellv (HS.out.at2) 4 rfl, blk_cellv (HS.out.at0) 3 rfl, blk_cellv (HS.out.at2) 2 rfl⟩) (fun hHeld => ?_)
              clear hK K
              refine norm_ (a' := ?_) ?_ ?_
              rotate_left
              · show Act.put _ (some 65) _ = _
                simp only [Act.put, List.setIfInBounds_toArray, List.set_cons_zero, List.set_cons_succ, i64_w, i32_w]
                rfl
              refine pure_ (i := 13) (N := some 66) (v := ?_) (a' := ?_) #[true, true, true, true, true, true, true, true, true, true, true, true, true, true, false] rfl rfl (by kernel_rfl) (fun _ _ _ h => h) (Or.inl ⟨by rfl, ?_⟩) ?_ ?_
              rotate_left
              · intro w'
                go_simp
                with_reducible rfl
              rotate_left
              · simp only [Act.put, List.setIfInBounds_toArray, List.set_cons_zero, List.set_cons_succ, i64_w, i32_w]
                rfl
              refine one_ (i := 14) (N := none) #[true, true, true, true, true, true, true, true, true, true, true, true, true, true, true] rfl rfl (by kernel_rfl) (by decide) (fun K hK => ?_)
              have hc918 := blk_cellv (v := .int .i64 0) (HS.out.at2) 6 rfl
              have hz919 := blk_fz (HS.out.at2) 6
              refine store_step (w1 := (World.setCell w916 ⟨g672, 6, none⟩ (.int .i64 t891))) (by rfl) rfl ?hr ?_
              case hr => first | (go_simp; done) | (go_simp; rfl)
              clear hc918 hz919
              intro w917 hst
              have hq0 : Sep (fps []) w [b8 g521 a517 a518 a519 a520, b9 g524 0 0 0 0 0 0 0 0, b9 g672 t669 (wrap64 (a518 - 8)) (wrap64 ((wrap64 (a518 - 8)) + 1)) t838 t865 t849 t891 0, b10 g902 2 t873, b10 g907 2 (wrap64 ((wrap64 (a518 - 8)) + 1)), b10 g912 t879 t885] (World.setCell w916 ⟨g672, 6, none⟩ (.int .i64 t891)) := (HS.out).set1 (l1 := [b8 g521 a517 a518 a519 a520, b9 g524 0 0 0 0 0 0 0 0]) (l2 := [b10 g902 2 t873, b10 g907 2 (wrap64 ((wrap64 (a518 - 8)) + 1)), b10 g912 t879 t885]) 6 (.int .i64 t891)
              have HS_ : Aside0 (Sep (fps []) w [b8 g521 a517 a518 a519 a520, b9 g524 0 0 0 0 0 0 0 0, b9 g672 t669 (wrap64 (a518 - 8)) (wrap64 ((wrap64 (a518 - 8)) + 1)) t838 t865 t849 t891 0, b10 g902 2 t873, b10 g907 2 (wrap64 ((wrap64 (a518 - 8)) + 1)), b10 g912 t879 t885] w917) := ⟨by rw [hst]; exact hq0⟩
              clear hq0
              clear HS hst
              have HS := HS_
              clear HS_
              refine hK.out _ _ (⟨blk_cellv (HS.out.at2) 4 rfl, blk_cellv (HS.out.at0) 3 rfl, blk_cellv (HS.out.at2) 2 rfl⟩) (fun hHeld => ?_)
              clear hK K
              refine done_ (by kernel_rfl) ?_
              go_wp2_with fail
              go_meet
              case rel => exact ⟨g902, g907, g912, ⟨((((((HS.out).front 5 (by simp)).front 5 (by simp)).front 5 (by simp)).front 5 (by simp)).front 5 (by simp)).front 5 (by simp)⟩⟩
            · refine slice_step (n := 2) (by rfl) (N := 62) rfl (cs := #[.int .i64 2, .int .i64 (wrap64 ((wrap64 (a518 - 8)) + 1))]) (t := 3) ?hr ?_
              case hr => first | (go_simp; done) | (go_simp; rfl)
              intro g920 hg w921 hbox hb
              replace HS : Aside0 (Sep (fps []) w [b8 g521 a517 a518 a519 a520, b9 g524 0 0 0 0 0 0 0 0, b9 g672 t669 (wrap64 (a518 - 8)) (wrap64 ((wrap64 (a518 - 8)) + 1)) t838 t865 t849 0 0, b10 g902 2 t873, b10 g920 2 (wrap64 ((wrap64 (a518 - 8)) + 1))] w921) := ⟨HS.out.box hg hbox hb⟩
              clear hg hbox hb
              refine hK.out _ _ (⟨blk_cellv (HS.out.at2) 4 rfl, blk_cellv (HS.out.at0) 3 rfl, blk_cellv (HS.out.at2) 2 rfl⟩) (fun hHeld => ?_)
              clear hK K
              refine norm_ (a' := ?_) ?_ ?_
              rotate_left
              · show Act.put _ (some 62) _ = _
                simp only [Act.put, List.setIfInBounds_toArray, List.set_cons_zero, List.set_cons_succ, i64_w, i32_w]
                rfl
              refine one_ (i := 6) (N := some 59) #[true, true, true, true, true, true, true, true, true, true, false, false, false, false, false] rfl rfl (by kernel_rfl) (by decide) (fun K hK => ?_)
              refine goes_ Tryd.func123 (by kernel_rfl) rfl #[.slice (some ⟨g902, 0, none⟩) 2 2] (by rfl) rfl rfl (by (try simp only [List.map_toArray, List.map_cons, List.map_nil]); first | done | rfl) ?_
              refine (ratio_Mul.calls _ [2, t873] (some ⟨g902, 0, none⟩) 2 t879 _ ⟨Rd.lit (l := []) (xs := [2, t873]) HS.out 3 rfl (by simp)⟩ ⟨HGl0.out.pass (l := []) HS.out⟩ ⟨Sep.start _⟩ HA880).mono ?_
              rintro e_ w924 ⟨rfl, hS⟩
              replace HS : Aside0 (Sep (fps []) w [b8 g521 a517 a518 a519 a520, b9 g524 0 0 0 0 0 0 0 0, b9 g672 t669 (wrap64 (a518 - 8)) (wrap64 ((wrap64 (a518 - 8)) + 1)) t838 t865 t849 0 0, b10 g902 2 t873, b10 g920 2 (wrap64 ((wrap64 (a518 - 8)) + 1))] w924) := ⟨HS.out.call hS⟩
              clear hS
              refine ⟨_, rfl, ?_⟩
              refine hK.out _ _ (⟨blk_cellv (HS.out.at2) 4 rfl, blk_cellv (HS.out.at0) 3 rfl, blk_cellv (HS.out.at2) 2 rfl⟩) (fun hHeld => ?_)
              clear hK K
              refine norm_ (a' := ?_) ?_ ?_
              rotate_left
              · show Act.put _ (some 59) _ = _
                simp only [Act.put, List.setIfInBounds_toArray, List.set_cons_zero, List.set_cons_succ, i64_w, i32_w]
                rfl
              refine one_ (i := 10) (N := some 63) #[true, true, true, true, true, true, true, true, true, true, true, false, false, false, false] rfl rfl (by kernel_rfl) (by decide) (fun K hK => ?_)
              refine goes_ Tryd.func123 (by kernel_rfl) rfl #[.slice (some ⟨g920, 0, none⟩) 2 2] (by rfl) rfl rfl (by (try simp only [List.map_toArray, List.map_cons, List.map_nil]); first | done | rfl) ?_
              refine (ratio_Mul.calls _ [2, wrap64 ((wrap64 (a518 - 8)) + 1)] (some ⟨g920, 0, none⟩) 2 t885 _ ⟨Rd.lit (l := []) (xs := [2, wrap64 ((wrap64 (a518 - 8)) + 1)]) HS.out 4 rfl (by simp)⟩ ⟨HGl0.out.pass (l := []) HS.out⟩ ⟨Sep.start _⟩ HA886).mono ?_
              rintro e_ w926 ⟨rfl, hS⟩
              replace HS : Aside0 (Sep (fps []) w [b8 g521 a517 a518 a519 a520, b9 g524 0 0 0 0 0 0 0 0, b9 g672 t669 (wrap64 (a518 - 8)) (wrap64 ((wrap64 (a518 - 8)) + 1)) t838 t865 t849 0 0, b10 g902 2 t873, b10 g920 2 (wrap64 ((wrap64 (a518 - 8)) + 1))] w926) := ⟨HS.out.call hS⟩
              clear hS
              refine ⟨_, rfl, ?_⟩
              refine hK.out _ _ (⟨blk_cellv (HS.out.at2) 4 rfl, blk_cellv (HS.out.at0) 3 rfl, blk_cellv (HS.out.at2) 2 rfl⟩) (fun hHeld => ?_)
              clear hK K
              refine norm_ (a' := ?_) ?_ ?_
              rotate_left
              · show Act.put _ (some 63) _ = _
                simp only [Act.put, List.setIfInBounds_toArray, List.set_cons_zero, List.set_cons_succ, i64_w, i32_w]
                rfl
              refine one_ (i := 11) (N := some 64) #[true, true, true, true, true, true, true, true, true, true, true, true, false, false, false] rfl rfl (by kernel_rfl) (by decide) (fun K hK => ?_)
              refine slice_step (n := 2) (by rfl) (N := 64) rfl (cs := #[.int .i64 t879, .int .i64 t885]) (t := 3) ?hr ?_
              case hr => first | (go_simp; done) | (go_simp; rfl)
              intro g927 hg w928 hbox hb
              replace HS : Aside0 (Sep (fps []) w [b8 g521 a517 a518 a519 a520, b9 g524 0 0 0 0 0 0 0 0, b9 g672 t669 (wrap64 (a518 - 8)) (wrap64 ((wrap64 (a518 - 8)) + 1)) t838 t865 t849 0 0, b10 g902 2 t873, b10 g920 2 (wrap64 ((wrap64 (a518 - 8)) + 1)), b10 g927 t879 t885] w928) := ⟨HS.out.box hg hbox hb⟩
              clear hg hbox hb
              refine hK.out _ _ (⟨blk_cellv (HS.out.at2) 4 rfl, blk_cellv (HS.out.at0) 3 rfl, blk_cellv (HS.out.at2) 2 rfl⟩) (fun hHeld => ?_)
              clear hK K
              refine norm_ (a' := ?_) ?_ ?_
              rotate_left
              · show Act.put _ (some 64) _ = _
                simp only [Act.put, List.setIfInBounds_toArray, List.set_cons_zero, List.set_cons_succ, i64_w, i32_w]
                rfl
              refine one_ (i := 12) (N := some 65) #[true, true, true, true, true, true, true, true, true, true, true, true, true, false, false] rfl rfl (by kernel_rfl) (by decide) (fun K hK => ?_)
              refine goes_ Tryd.func122 (by kernel_rfl) rfl #[.slice (some ⟨g927, 0, none⟩) 2 2] (by rfl) rfl rfl (by (try simp only [List.map_toArray, List.map_cons, List.map_nil]); first | done | rfl) ?_
              refine (ratio_Add.calls _ [t879, t885] (some ⟨g927, 0, none⟩) 2 t891 _ ⟨Rd.lit (l := []) (xs := [t879, t885]) HS.out 5 rfl (by simp)⟩ ⟨HGl0.out.pass (l := []) HS.out⟩ ⟨Sep.start _⟩ HA892).mono ?_
              rintro e_ w931 ⟨rfl, hS⟩
              replace HS : Aside0 (Sep (fps []) w [b8 g521 a517 a518 a519 a520, b9 g524 0 0 0 0 0 0 0 0, b9 g672 t669 (wrap64 (a518 - 8)) (wrap64 ((wrap64 (a518 - 8)) + 1)) t838 t865 t849 0 0, b10 g902 2 t873, b10 g920 2 (wrap64 ((wrap64 (a518 - 8)) + 1)), b10 g927 t879 t885] w931) := ⟨HS.out.call hS⟩
              clear hS
              refine ⟨_, rfl, ?_⟩
              refine hK.out _ _ (⟨blk_cellv (HS.out.at2) 4 rfl, blk_cellv (HS.out.at0) 3 rfl, blk_cellv (HS.out.at2) 2 rfl⟩) (fun hHeld => ?_)
              clear hK K
              refine norm_ (a' := ?_) ?_ ?_
              rotate_left
              · show Act.put _ (some 65) _ = _
                simp only [Act.put, List.setIfInBounds_toArray, List.set_cons_zero, List.set_cons_succ, i64_w, i32_w]
                rfl
              refine pure_ (i := 13) (N := some 66) (v := ?_) (a' := ?_) #[true, true, true, true, true, true, true, true, true, true, true, true, true, true, false] rfl rfl (by kernel_rfl) (fun _ _ _ h => h) (Or.inl ⟨by rfl, ?_⟩) ?_ ?_
              rotate_left
              · intro w'
                go_simp
                with_reducible rfl
              rotate_left
              · simp only [Act.put, List.setIfInBounds_toArray, List.set_cons_zero, List.set_cons_succ, i64_w, i32_w]
                rfl
              refine one_ (i := 14) (N := none) #[true, true, true, true, true, true, true, true, true, true, true, true, true, true, true] rfl rfl (by kernel_rfl) (by decide) (fun K hK => ?_)
              have hc933 := blk_cellv (v := .int .i64 0) (HS.out.at2) 6 rfl
              have hz934 := blk_fz (HS.out.at2) 6
              refine store_step (w1 := (World.setCell w931 ⟨g672, 6, none⟩ (.int .i64 t891))) (by rfl) rfl ?hr ?_
              case hr => first | (go_simp; done) | (go_simp; rfl)
              clear hc933 hz934
              intro w932 hst
              have hq0 : Sep (fps []) w [b8 g521 a517 a518 a519 a520, b9 g524 0 0 0 0 0 0 0 0, b9 g672 t669 (wrap64 (a518 - 8)) (wrap64 ((wrap64 (a518 - 8)) + 1)) t838 t865 t849 t891 0, b10 g902 2 t873, b10 g920 2 (wrap64 ((wrap64 (a518 - 8)) + 1)), b10 g927 t879 t885] (World.setCell w931 ⟨g672, 6, none⟩ (.int .i64 t891)) := (HS.out).set1 (l1 := [b8 g521 a517 a518 a519 a520, b9 g524 0 0 0 0 0 0 0 0]) (l2 := [b10 g902 2 t873, b10 g920 2 (wrap64 ((wrap64 (a518 - 8)) + 1)), b10 g927 t879 t885]) 6 (.int .i64 t891)
              have HS_ : Aside0 (Sep (fps []) w [b8 g521 a517 a518 a519 a520, b9 g524 0 0 0 0 0 0 0 0, b9 g672 t669 (wrap64 (a518 - 8)) (wrap64 ((wrap64 (a518 - 8)) + 1)) t838 t865 t849 t891 0, b10 g902 2 t873, b10 g920 2 (wrap64 ((wrap64 (a518 - 8)) + 1)), b10 g927 t879 t885] w932) := ⟨by rw [hst]; exact hq0⟩
              clear hq0
              clear HS hst
              have HS := HS_
              clear HS_
              refine hK.out _ _ (⟨blk_cellv (HS.out.at2) 4 rfl, blk_cellv (HS.out.at0) 3 rfl, blk_cellv (HS.out.at2) 2 rfl⟩) (fun hHeld => ?_)
              clear hK K
              refine done_ (by kernel_rfl) ?_
              go_wp2_with fail
              go_meet
              case rel => exact ⟨g902, g920, g927, ⟨((((((HS.out).front 5 (by simp)).front 5 (by simp)).front 5 (by simp)).front 5 (by simp)).front 5 (by simp)).front 5 (by simp)⟩⟩
          · refine slice_step (n := 2) (by rfl) (N := 62) rfl (cs := #[.int .i64 2, .int .i64 (wrap64 ((wrap64 (a518 - 8)) + 1))]) (t := 3) ?hr ?_
            case hr => first | (go_simp; done) | (go_simp; rfl)
            intro g935 hg w936 hbox hb
            replace HS : Aside0 (Sep (fps []) w [b8 g521 a517 a518 a519 a520, b9 g524 0 0 0 0 0 0 0 0, b9 g672 t669 (wrap64 (a518 - 8)) (wrap64 ((wrap64 (a518 - 8)) + 1)) t838 t865 t849 0 0, b10 g935 2 (wrap64 ((wrap64 (a518 - 8)) + 1))] w936) := ⟨HS.out.box hg hbox hb⟩
            clear hg hbox hb
            refine hK.out _ _ (⟨blk_cellv (HS.out.at2) 4 rfl, blk_cellv (HS.out.at0) 3 rfl, blk_cellv (HS.out.at2) 2 rfl⟩) (fun hHeld => ?_)
            clear hK K
            refine norm_ (a' := ?_) ?_ ?_
            rotate_left
            · show Act.put _ (some 62) _ = _
              simp only [Act.put, List.setIfInBounds_toArray, List.set_cons_zero, List.set_cons_succ, i64_w, i32_w]
              rfl
            refine one_ (i := 5) (N := some 58) #[true, true, true, true, true, true, false, true, true, true, false, false, false, false, false] rfl rfl (by kernel_rfl) (by decide) (fun K hK => ?_)
            refine slice_step (n := 2) (by rfl) (N := 58) rfl (cs := #[.int .i64 2, .int .i64 t873]) (t := 3) ?hr ?_
            case hr => first | (go_simp; done) | (go_simp; rfl)
            intro g938 hg w939 hbox hb
            replace HS : Aside0 (Sep (fps []) w [b8 g521 a517 a518 a519 a520, b9 g524 0 0 0 0 0 0 0 0, b9 g672 t669 (wrap64 (a518 - 8)) (wrap64 ((wrap64 (a518 - 8)) + 1)) t838 t865 t849 0 0, b10 g935 2 (wrap64 ((wrap64 (a518 - 8)) + 1)), b10 g938 2 t873] w939) := ⟨HS.out.box hg hbox hb⟩
            clear hg hbox hb
            refine hK.out _ _ (⟨blk_cellv (HS.out.at2) 4 rfl, blk_cellv (HS.out.at0) 3 rfl, blk_cellv (HS.out.at2) 2 rfl⟩) (fun hHeld => ?_)
            clear hK K
            refine norm_ (a' := ?_) ?_ ?_
            rotate_left
            · show Act.put _ (some 58) _ = _
              simp only [Act.put, List.setIfInBounds_toArray, List.set_cons_zero, List.set_cons_succ, i64_w, i32_w]
              rfl
            refine one_ (i := 6) (N := some 59) #[true, true, true, true, true, true, true, true, true, true, false, false, false, false, false] rfl rfl (by kernel_rfl) (by decide) (fun K hK => ?_)
            refine goes_ Tryd.func123 (by kernel_rfl) rfl #[.slice (some ⟨g938, 0, none⟩) 2 2] (by rfl) rfl rfl (by (try simp only [List.map_toArray, List.map_cons, List.map_nil]); first | done | rfl) ?_
            refine (ratio_Mul.calls _ [2, t873] (some ⟨g938, 0, none⟩) 2 t879 _ ⟨Rd.lit (l := []) (xs := [2, t873]) HS.out 4 rfl (by simp)⟩ ⟨HGl0.out.pass (l := []) HS.out⟩ ⟨Sep.start _⟩ HA880).mono ?_
            rintro e_ w942 ⟨rfl, hS⟩
            replace HS : Aside0 (Sep (fps []) w [b8 g521 a517 a518 a519 a520, b9 g524 0 0 0 0 0 0 0 0, b9 g672 t669 (wrap64 (a518 - 8)) (wrap64 ((wrap64 (a518 - 8)) + 1)) t838 t865 t849 0 0, b10 g935 2 (wrap64 ((wrap64 (a518 - 8)) + 1)), b10 g938 2 t873] w942) := ⟨HS.out.call hS⟩
            clear hS
            refine ⟨_, rfl, ?_⟩
            refine hK.out _ _ (⟨blk_cellv (HS.out.at2) 4 rfl, blk_cellv (HS.out.at0) 3 rfl, blk_cellv (HS.out.at2) 2 rfl⟩) (fun hHeld => ?_)
            clear hK K
            refine norm_ (a' := ?_) ?_ ?_
            rotate_left
            · show Act.put _ (some 59) _ = _
              simp only [Act.put, List.setIfInBounds_toArray, List.set_cons_zero, List.set_cons_succ, i64_w, i32_w]
              rfl
            refine one_ (i := 10) (N := some 63) #[true, true, true, true, true, true, true, true, true, true, true, false, false, false, false] rfl rfl (by kernel_rfl) (by decide) (fun K hK => ?_)
            refine goes_ Tryd.func123 (by kernel_rfl) rfl #[.slice (some ⟨g935, 0, none⟩) 2 2] (by rfl) rfl rfl (by (try simp only [List.map_toArray, List.map_cons, List.map_nil]); first | done | rfl) ?_
            refine (ratio_Mul.calls _ [2, wrap64 ((wrap64 (a518 - 8)) + 1)] (some ⟨g935, 0, none⟩) 2 t885 _ ⟨Rd.lit (l := []) (xs := [2, wrap64 ((wrap64 (a518 - 8)) + 1)]) HS.out 3 rfl (by simp)⟩ ⟨HGl0.out.pass (l := []) HS.out⟩ ⟨Sep.start _⟩ HA886).mono ?_
            rintro e_ w944 ⟨rfl, hS⟩
            replace HS : Aside0 (Sep (fps []) w [b8 g521 a517 a518 a519 a520, b9 g524 0 0 0 0 0 0 0 0, b9 g672 t669 (wrap64 (a518 - 8)) (wrap64 ((wrap64 (a518 - 8)) + 1)) t838 t865 t849 0 0, b10 g935 2 (wrap64 ((wrap64 (a518 - 8)) + 1)), b10 g938 2 t873] w944) := ⟨HS.out.call hS⟩
            clear hS
            refine ⟨_, rfl, ?_⟩
            refine hK.out _ _ (⟨blk_cellv (HS.out.at2) 4 rfl, blk_cellv (HS.out.at0) 3 rfl, blk_cellv (HS.out.at2) 2 rfl⟩) (fun hHeld => ?_)
            clear hK K
            refine norm_ (a' := ?_) ?_ ?_
            rotate_left
            · show Act.put _ (some 63) _ = _
              simp only [Act.put, List.setIfInBounds_toArray, List.set_cons_zero, List.set_cons_succ, i64_w, i32_w]
              rfl
            refine one_ (i := 11) (N := some 64) #[true, true, true, true, true, true, true, true, true, true, true, true, false, false, false] rfl rfl (by kernel_rfl) (by decide) (fun K hK => ?_)
            refine slice_step (n := 2) (by rfl) (N := 64) rfl (cs := #[.int .i64 t879, .int .i64 t885]) (t := 3) ?hr ?_
            case hr => first | (go_simp; done) | (go_simp; rfl)
            intro g945 hg w946 hbox hb
            replace HS : Aside0 (Sep (fps []) w [b8 g521 a517 a518 a519 a520, b9 g524 0 0 0 0 0 0 0 0, b9 g672 t669 (wrap64 (a518 - 8)) (wrap64 ((wrap64 (a518 - 8)) + 1)) t838 t865 t849 0 0, b10 g935 2 (wrap64 ((wrap64 (a518 - 8)) + 1)), b10 g938 2 t873, b10 g945 t879 t885] w946) := ⟨HS.out.box hg hbox hb⟩
            clear hg hbox hb
            refine hK.out _ _ (⟨blk_cellv (HS.out.at2) 4 rfl, blk_cellv (HS.out.at0) 3 rfl, blk_cellv (HS.out.at2) 2 rfl⟩) (fun hHeld => ?_)
            clear hK K
            refine norm_ (a' := ?_) ?_ ?_
            rotate_left
            · show Act.put _ (some 64) _ = _
              simp only [Act.put, List.setIfInBounds_toArray, List.set_cons_zero, List.set_cons_succ, i64_w, i32_w]
              rfl
            refine one_ (i := 12) (N := some 65) #[true, true, true, true, true, true, true, true, true, true, true, true, true, false, false] rfl rfl (by kernel_rfl) (by decide) (fun K hK => ?_)
            refine goes_ Tryd.func122 (by kernel_rfl) rfl #[.slice (some ⟨g945, 0, none⟩) 2 2] (by rfl) rfl rfl (by (try simp only [List.map_toArray, List.map_cons, List.map_nil]); first | done | rfl) ?_
            refine (ratio_Add.calls _ [t879, t885] (some ⟨g945, 0, none⟩) 2 t891 _ ⟨Rd.lit (l := []) (xs := [t879, t885]) HS.out 5 rfl (by simp)⟩ ⟨HGl0.out.pass (l := []) HS.out⟩ ⟨Sep.start _⟩ HA892).mono ?_
            rintro e_ w949 ⟨rfl, hS⟩
            replace HS : Aside0 (Sep (fps []) w [b8 g521 a517 a518 a519 a520, b9 g524 0 0 0 0 0 0 0 0, b9 g672 t669 (wrap64 (a518 - 8)) (wrap64 ((wrap64 (a518 - 8)) + 1)) t838 t865 t849 0 0, b10 g935 2 (wrap64 ((wrap64 (a518 - 8)) + 1)), b10 g938 2 t873, b10 g945 t879 t885] w949) := ⟨HS.out.call hS⟩
            clear hS
            refine ⟨_, rfl, ?_⟩
            refine hK.out _ _ (⟨blk_cellv (HS.out.at2) 4 rfl, blk_cellv (HS.out.at0) 3 rfl, blk_cellv (HS.out.at2) 2 rfl⟩) (fun hHeld => ?_)
            clear hK K
            refine norm_ (a' := ?_) ?_ ?_
            rotate_left
            · show Act.put _ (some 65) _ = _
              simp only [Act.put, List.setIfInBounds_toArray, List.set_cons_zero, List.set_cons_succ, i64_w, i32_w]
              rfl
            refine pure_ (i := 13) (N := some 66) (v := ?_) (a' := ?_) #[true, true, true, true, true, true, true, true, true, true, true, true, true, true, false] rfl rfl (by kernel_rfl) (fun _ _ _ h => h) (Or.inl ⟨by rfl, ?_⟩) ?_ ?_
            rotate_left
            · intro w'
              go_simp
              with_reducible rfl
            rotate_left
            · simp only [Act.put, List.setIfInBounds_toArray, List.set_cons_zero, List.set_cons_succ, i64_w, i32_w]
              rfl
            refine one_ (i := 14) (N := none) #[true, true, true, true, true, true, true, true, true, true, true, true, true, true, true] rfl rfl (by kernel_rfl) (by decide) (fun K hK => ?_)
            have hc951 := blk_cellv (v := .int .i64 0) (HS.out.at2) 6 rfl
            have hz952 := blk_fz (HS.out.at2) 6
            refine store_step (w1 := (World.setCell w949 ⟨g672, 6, none⟩ (.int .i64 t891))) (by rfl) rfl ?hr ?_
            case hr => first | (go_simp; done) | (go_simp; rfl)
            clear hc951 hz952
            intro w950 hst
            have hq0 : Sep (fps []) w [b8 g521 a517 a518 a519 a520, b9 g524 0 0 0 0 0 0 0 0, b9 g672 t669 (wrap64 (a518 - 8)) (wrap64 ((wrap64 (a518 - 8)) + 1)) t838 t865 t849 t891 0, b10 g935 2 (wrap64 ((wrap64 (a518 - 8)) + 1)), b10 g938 2 t873, b10 g945 t879 t885] (World.setCell w949 ⟨g672, 6, none⟩ (.int .i64 t891)) := (HS.out).set1 (l1 := [b8 g521 a517 a518 a519 a520, b9 g524 0 0 0 0 0 0 0 0]) (l2 := [b10 g935 2 (wrap64 ((wrap64 (a518 - 8)) + 1)), b10 g938 2 t873, b10 g945 t879 t885]) 6 (.int .i64 t891)
            have HS_ : Aside0 (Sep (fps []) w [b8 g521 a517 a518 a519 a520, b9 g524 0 0 0 0 0 0 0 0, b9 g672 t669 (wrap64 (a518 - 8)) (wrap64 ((wrap64 (a518 - 8)) + 1)) t838 t865 t849 t891 0, b10 g935 2 (wrap64 ((wrap64 (a518 - 8)) + 1)), b10 g938 2 t873, b10 g945 t879 t885] w950) := ⟨by rw [hst]; exact hq0⟩
            clear hq0
            clear HS hst
            have HS := HS_
            clear HS_
            refine hK.out _ _ (⟨blk_cellv (HS.out.at2) 4 rfl, blk_cellv (HS.out.at0) 3 rfl, blk_cellv (HS.out.at2) 2 rfl⟩) (fun hHeld => ?_)
            clear hK K
            refine done_ (by kernel_rfl) ?_
            go_wp2_with fail
            go_meet
            case rel => exact ⟨g938, g935, g945, ⟨((((((HS.out).front 5 (by simp)).front 4 (by simp)).front 5 (by simp)).front 5 (by simp)).front 5 (by simp)).front 5 (by simp)⟩⟩
        · refine slice_step (n := 2) (by rfl) (N := 62) rfl (cs := #[.int .i64 2, .int .i64 (wrap64 ((wrap64 (a518 - 8)) + 1))]) (t := 3) ?hr ?_
          case hr => first | (go_simp; done) | (go_simp; rfl)
          intro g953 hg w954 hbox hb
          replace HS : Aside0 (Sep (fps []) w [b8 g521 a517 a518 a519 a520, b9 g524 0 0 0 0 0 0 0 0, b9 g672 t669 (wrap64 (a518 - 8)) (wrap64 ((wrap64 (a518 - 8)) + 1)) t838 t865 t849 0 0, b10 g953 2 (wrap64 ((wrap64 (a518 - 8)) + 1))] w954) := ⟨HS.out.box hg hbox hb⟩
          clear hg hbox hb
          refine hK.out _ _ (⟨blk_cellv (HS.out.at2) 4 rfl, blk_cellv (HS.out.at0) 3 rfl, blk_cellv (HS.out.at2) 2 rfl⟩) (fun hHeld => ?_)
          clear hK K
          refine norm_ (a' := ?_) ?_ ?_
          rotate_left
          · show Act.put _ (some 62) _ = _
            simp only [Act.put, List.setIfInBounds_toArray, List.set_cons_zero, List.set_cons_succ, i64_w, i32_w]
            rfl
          refine one_ (i := 4) (N := some 57) #[true, true, true, true, true, false, false, true, true, true, false, false, false, false, false] rfl rfl (by kernel_rfl) (by decide) (fun K hK => ?_)
          refine goes_ Tryd.func124 (by kernel_rfl) rfl #[.int .i64 t865, .int .i64 a520] (by rfl) rfl rfl (by (try simp only [List.map_toArray, List.map_cons, List.map_nil]); first | done | rfl) ?_
          refine (ratio_Up.calls t865 a520 t873 _ ⟨HGl0.out.pass (l := []) HS.out⟩ ⟨Sep.start _⟩ HA874).mono ?_
          rintro e_ w957 ⟨rfl, hS⟩
          replace HS : Aside0 (Sep (fps []) w [b8 g521 a517 a518 a519 a520, b9 g524 0 0 0 0 0 0 0 0, b9 g672 t669 (wrap64 (a518 - 8)) (wrap64 ((wrap64 (a518 - 8)) + 1)) t838 t865 t849 0 0, b10 g953 2 (wrap64 ((wrap64 (a518 - 8)) + 1))] w957) := ⟨HS.out.call hS⟩
          clear hS
          refine ⟨_, rfl, ?_⟩
          refine hK.out _ _ (⟨blk_cellv (HS.out.at2) 4 rfl, blk_cellv (HS.out.at0) 3 rfl, blk_cellv (HS.out.at2) 2 rfl⟩) (fun hHeld => ?_)
          clear hK K
          refine norm_ (a' := ?_) ?_ ?_
          rotate_left
          · show Act.put _ (some 57) _ = _
            simp only [Act.put, List.setIfInBounds_toArray, List.set_cons_zero, List.set_cons_succ, i64_w, i32_w]
            rfl
          refine one_ (i := 5) (N := some 58) #[true, true, true, true, true, true, false, true, true, true, false, false, false, false, false] rfl rfl (by kernel_rfl) (by decide) (fun K hK => ?_)
          refine slice_step (n := 2) (by rfl) (N := 58) rfl (cs := #[.int .i64 2, .int .i64 t873]) (t := 3) ?hr ?_
          case hr => first | (go_simp; done) | (go_simp; rfl)
          intro g958 hg w959 hbox hb
          replace HS : Aside0 (Sep (fps []) w [b8 g521 a517 a518 a519 a520, b9 g524 0 0 0 0 0 0 0 0, b9 g672 t669 (wrap64 (a518 - 8)) (wrap64 ((wrap64 (a518 - 8)) + 1)) t838 t865 t849 0 0, b10 g953 2 (wrap64 ((wrap64 (a518 - 8)) + 1)), b10 g958 2 t873] w959) := ⟨HS.out.box hg hbox hb⟩
          clear hg hbox hb
          refine hK.out _ _ (⟨blk_cellv (HS.out.at2) 4 rfl, blk_cellv (HS.out.at0) 3 rfl, blk_cellv (HS.out.at2) 2 rfl⟩) (fun hHeld => ?_)
          clear hK K
          refine norm_ (a' := ?_) ?_ ?_
          rotate_left
          · show Act.put _ (some 58) _ = _
            simp only [Act.put, List.setIfInBounds_toArray, List.set_cons_zero, List.set_cons_succ, i64_w, i32_w]
            rfl
          refine one_ (i := 6) (N := some 59) #[true, true, true, true, true, true, true, true, true, true, false, false, false, false, false] rfl rfl (by kernel_rfl) (by decide) (fun K hK => ?_)
          refine goes_ Tryd.func123 (by kernel_rfl) rfl #[.slice (some ⟨g958, 0, none⟩) 2 2] (by rfl) rfl rfl (by (try simp only [List.map_toArray, List.map_cons, List.map_nil]); first | done | rfl) ?_
          refine (ratio_Mul.calls _ [2, t873] (some ⟨g958, 0, none⟩) 2 t879 _ ⟨Rd.lit (l := []) (xs := [2, t873]) HS.out 4 rfl (by simp)⟩ ⟨HGl0.out.pass (l := []) HS.out⟩ ⟨Sep.start _⟩ HA880).mono ?_
          rintro e_ w962 ⟨rfl, hS⟩
          replace HS : Aside0 (Sep (fps []) w [b8 g521 a517 a518 a519 a520, b9 g524 0 0 0 0 0 0 0 0, b9 g672 t669 (wrap64 (a518 - 8)) (wrap64 ((wrap64 (a518 - 8)) + 1)) t838 t865 t849 0 0, b10 g953 2 (wrap64 ((wrap64 (a518 - 8)) + 1)), b10 g958 2 t873] w962) := ⟨HS.out.call hS⟩
          clear hS
          refine ⟨_, rfl, ?_⟩
          refine hK.out _ _ (⟨blk_cellv (HS.out.at2) 4 rfl, blk_cellv (HS.out.at0) 3 rfl, blk_cellv (HS.out.at2) 2 rfl⟩) (fun hHeld => ?_)
          clear hK K
          refine norm_ (a' := ?_) ?_ ?_
          rotate_left
          · show Act.put _ (some 59) _ = _
            simp only [Act.put, List.setIfInBounds_toArray, List.set_cons_zero, List.set_cons_succ, i64_w, i32_w]
            rfl
          refine one_ (i := 10) (N := some 63) #[true, true, true, true, true, true, true, true, true, true, true, false, false, false, false] rfl rfl (by kernel_rfl) (by decide) (fun K hK => ?_)
          refine goes_ Tryd.func123 (by kernel_rfl) rfl #[.slice (some ⟨g953, 0, none⟩) 2 2] (by rfl) rfl rfl (by (try simp only [List.map_toArray, List.map_cons, List.map_nil]); first | done | rfl) ?_
          refine (ratio_Mul.calls _ [2, wrap64 ((wrap64 (a518 - 8)) + 1)] (some ⟨g953, 0, none⟩) 2 t885 _ ⟨Rd.lit (l := []) (xs := [2, wrap64 ((wrap64 (a518 - 8)) + 1)]) HS.out 3 rfl (by simp)⟩ ⟨HGl0.out.pass (l := []) HS.out⟩ ⟨Sep.start _⟩ HA886).mono ?_
          rintro e_ w964 ⟨rfl, hS⟩
          replace HS : Aside0 (Sep (fps []) w [b8 g521 a517 a518 a519 a520, b9 g524 0 0 0 0 0 0 0 0, b9 g672 t669 (wrap64 (a518 - 8)) (wrap64 ((wrap64 (a518 - 8)) + 1)) t838 t865 t849 0 0, b10 g953 2 (wrap64 ((wrap64 (a518 - 8)) + 1)), b10 g958 2 t873] w964) := ⟨HS.out.call hS⟩
          clear hS
          refine ⟨_, rfl, ?_⟩
          refine hK.out _ _ (⟨blk_cellv (HS.out.at2) 4 rfl, blk_cellv (HS.out.at0) 3 rfl, blk_cellv (HS.out.at2) 2 rfl⟩) (fun hHeld => ?_)
          clear hK K
          refine norm_ (a' := ?_) ?_ ?_
          rotate_left
          · show Act.put _ (some 63) _ = _
            simp only [Act.put, List.setIfInBounds_toArray, List.set_cons_zero, List.set_cons_succ, i64_w, i32_w]
            rfl
          refine one_ (i := 11) (N := some 64) #[true, true, true, true, true, true, true, true, true, true, true, true, false, false, false] rfl rfl (by kernel_rfl) (by decide) (fun K hK => ?_)
          refine slice_step (n := 2) (by rfl) (N := 64) rfl (cs := #[.int .i64 t879, .int .i64 t885]) (t := 3) ?hr ?_
          case hr => first | (go_simp; done) | (go_simp; rfl)
          intro g965 hg w966 hbox hb
          replace HS : Aside0 (Sep (fps []) w [b8 g521 a517 a518 a519 a520, b9 g524 0 0 0 0 0 0 0 0, b9 g672 t669 (wrap64 (a518 - 8)) (wrap64 ((wrap64 (a518 - 8)) + 1)) t838 t865 t849 0 0, b10 g953 2 (wrap64 ((wrap64 (a518 - 8)) + 1)), b10 g958 2 t873, b10 g965 t879 t885] w966) := ⟨HS.out.box hg hbox hb⟩
          clear hg hbox hb
          refine hK.out _ _ (⟨blk_cellv (HS.out.at2) 4 rfl, blk_cellv (HS.out.at0) 3 rfl, blk_cellv (HS.out.at2) 2 rfl⟩) (fun hHeld => ?_)
          clear hK K
          refine norm_ (a' := ?_) ?_ ?_
          rotate_left
          · show Act.put _ (some 64) _ = _
            simp only [Act.put, List.setIfInBounds_toArray, List.set_cons_zero, List.set_cons_succ, i64_w, i32_w]
            rfl
          refine one_ (i := 12) (N := some 65) #[true, true, true, true, true, true, true, true, true, true, true, true, true, false, false] rfl rfl (by kernel_rfl) (by decide) (fun K hK => ?_)
          refine goes_ Tryd.func122 (by kernel_rfl) rfl #[.slice (some ⟨g965, 0, none⟩) 2 2] (by rfl) rfl rfl (by (try simp only [List.map_toArray, List.map_cons, List.map_nil]); first | done | rfl) ?_
          refine (ratio_Add.calls _ [t879, t885] (some ⟨g965, 0, none⟩) 2 t891 _ ⟨Rd.lit (l := []) (xs := [t879, t885]) HS.out 5 rfl (by simp)⟩ ⟨HGl0.out.pass (l := []) HS.out⟩ ⟨Sep.start _⟩ HA892).mono ?_
          rintro e_ w969 ⟨rfl, hS⟩
          replace HS : Aside0 (Sep (fps []) w [b8 g521 a517 a518 a519 a520, b9 g524 0 0 0 0 0 0 0 0, b9 g672 t669 (wrap64 (a518 - 8)) (wrap64 ((wrap64 (a518 - 8)) + 1)) t838 t865 t849 0 0, b10 g953 2 (wrap64 ((wrap64 (a518 - 8)) + 1)), b10 g958 2 t873, b10 g965 t879 t885] w969) := ⟨HS.out.call hS⟩
          clear hS
          refine ⟨_, rfl, ?_⟩
          refine hK.out _ _ (⟨blk_cellv (HS.out.at2) 4 rfl, blk_cellv (HS.out.at0) 3 rfl, blk_cellv (HS.out.at2) 2 rfl⟩) (fun hHeld => ?_)
          clear hK K
          refine norm_ (a' := ?_) ?_ ?_
          rotate_left
          · show Act.put _ (some 65) _ = _
            simp only [Act.put, List.setIfInBounds_toArray, List.set_cons_zero, List.set_cons_succ, i64_w, i32_w]
            rfl
          refine pure_ (i := 13) (N := some 66) (v := ?_) (a' := ?_) #[true, true, true, true, true, true, true, true, true, true, true, true, true, true, false] rfl rfl (by kernel_rfl) (fun _ _ _ h => h) (Or.inl ⟨by rfl, ?_⟩) ?_ ?_
          rotate_left
          · intro w'
            go_simp
            with_reducible rfl
          rotate_left
          · simp only [Act.put, List.setIfInBounds_toArray, List.set_cons_zero, List.set_cons_succ, i64_w, i32_w]
            rfl
          refine one_ (i := 14) (N := none) #[true, true, true, true, true, true, true, true, true, true, true, true, true, true, true] rfl rfl (by kernel_rfl) (by decide) (fun K hK => ?_)
          have hc971 := blk_cellv (v := .int .i64 0) (HS.out.at2) 6 rfl
          have hz972 := blk_fz (HS.out.at2) 6
          refine store_step (w1 := (World.setCell w969 ⟨g672, 6, none⟩ (.int .i64 t891))) (by rfl) rfl ?hr ?_
          case hr => first | (go_simp; done) | (go_simp; rfl)
          clear hc971 hz972
          intro w970 hst
          have hq0 : Sep (fps []) w [b8 g521 a517 a518 a519 a520, b9 g524 0 0 0 0 0 0 0 0, b9 g672 t669 (wrap64 (a518 - 8)) (wrap64 ((wrap64 (a518 - 8)) + 1)) t838 t865 t849 t891 0, b10 g953 2 (wrap64 ((wrap64 (a518 - 8)) + 1)), b10 g958 2 t873, b10 g965 t879 t885] (World.setCell w969 ⟨g672, 6, none⟩ (.int .i64 t891)) := (HS.out).set1 (l1 := [b8 g521 a517 a518 a519 a520, b9 g524 0 0 0 0 0 0 0 0]) (l2 := [b10 g953 2 (wrap64 ((wrap64 (a518 - 8)) + 1)), b10 g958 2 t873, b10 g965 t879 t885]) 6 (.int .i64 t891)
          have HS_ : Aside0 (Sep (fps []) w [b8 g521 a517 a518 a519 a520, b9 g524 0 0 0 0 0 0 0 0, b9 g672 t669 (wrap64 (a518 - 8)) (wrap64 ((wrap64 (a518 - 8)) + 1)) t838 t865 t849 t891 0, b10 g953 2 (wrap64 ((wrap64 (a518 - 8)) + 1)), b10 g958 2 t873, b10 g965 t879 t885] w970) := ⟨by rw [hst]; exact hq0⟩
          clear hq0
          clear HS hst
          have HS := HS_
          clear HS_
          refine hK.out _ _ (⟨blk_cellv (HS.out.at2) 4 rfl, blk_cellv (HS.out.at0) 3 rfl, blk_cellv (HS.out.at2) 2 rfl⟩) (fun hHeld => ?_)
          clear hK K
          refine done_ (by kernel_rfl) ?_
          go_wp2_with fail
          go_meet
          case rel => exact ⟨g958, g953, g965, ⟨((((((HS.out).front 5 (by simp)).front 4 (by simp)).front 5 (by simp)).front 5 (by simp)).front 5 (by simp)).front 5 (by simp)⟩⟩
      case rest =>
        clear HS
        obtain ⟨g876, g882, g888, HS⟩ := hcut
        obtain ⟨w897, rfl⟩ : ∃ x : World, x = wc := ⟨_, rfl⟩
        replace HS : Aside0 (Sep (fps []) w [b8 g521 a517 a518 a519 a520, b9 g524 0 0 0 0 0 0 0 0, b9 g672 t669 (wrap64 (a518 - 8)) (wrap64 ((wrap64 (a518 - 8)) + 1)) t838 t865 t849 t891 0] w897) := ⟨HS.out.sub (.cons_cons _ (.cons_cons _ (.cons_cons _ (.cons _ (.cons _ (.cons _ .slnil))))))⟩
        go_wp2_with fail
        refine start_ (n := 15) (S := (fun w' => w'.cell? ⟨g672, 4, none⟩ = some (.int .i64 t865) ∧ w'.cell? ⟨g672, 5, none⟩ = some (.int .i64 t849) ∧ w'.cell? ⟨g521, 3, none⟩ = some (.int .i64 a520))) (ds := []) #[false, false, false, false, false, false, false, false, false, false, false, false, false, false, false] (by kernel_rfl) rfl rfl (⟨blk_cellv ((HS.out.drew).at2) 4 rfl, blk_cellv ((HS.out.drew).at2) 5 rfl, blk_cellv ((HS.out.drew).at0) 3 rfl⟩) (fun hHeld => ?_)
        have HS_ := Aside0.mk HS.out.drew
        clear HS
        generalize World.drew _ = w974 at HS_ hHeld ⊢
        have HS := HS_
        clear HS_
        refine pure_ (i := 0) (N := some 67) (v := ?_) (a' := ?_) #[true, false, false, false, false, false, false, false, false, false, false, false, false, false, false] rfl rfl (by kernel_rfl) (fun _ _ _ h => h) (Or.inl ⟨by rfl, ?_⟩) ?_ ?_
        rotate_left
        · intro w'
          go_simp
          with_reducible rfl
        rotate_left
        · simp only [Act.put, List.setIfInBounds_toArray, List.set_cons_zero, List.set_cons_succ, i64_w, i32_w]
          rfl
        refine pure_ (i := 2) (N := some 69) (v := ?_) (a' := ?_) #[true, false, true, false, false, false, false, false, false, false, false, false, false, false, false] rfl rfl (by kernel_rfl) (fun _ _ _ h => h) (Or.inl ⟨by rfl, ?_⟩) ?_ ?_
        rotate_left
        · intro w'
          go_simp
          with_reducible rfl
        rotate_left
        · simp only [Act.put, List.setIfInBounds_toArray, List.set_cons_zero, List.set_cons_succ, i64_w, i32_w]
          rfl
        refine pure_ (i := 4) (N := some 71) (v := ?_) (a' := ?_) #[true, false, true, false, true, false, false, false, false, false, false, false, false, false, false] rfl rfl (by kernel_rfl) (fun _ _ _ h => h) (Or.inl ⟨by rfl, ?_⟩) ?_ ?_
        rotate_left
        · intro w'
          go_simp
          with_reducible rfl
        rotate_left
        · simp only [Act.put, List.setIfInBounds_toArray, List.set_cons_zero, List.set_cons_succ, i64_w, i32_w]
          rfl
        refine pure_ (i := 8) (N := some 75) (v := ?_) (a' := ?_) #[true, false, true, false, true, false, false, false, true, false, false, false, false, false, false] rfl rfl (by kernel_rfl) (fun _ _ _ h => h) (Or.inl ⟨by rfl, ?_⟩) ?_ ?_
        rotate_left
        · intro w'
          go_simp
          with_reducible rfl
        rotate_left
        · simp only [Act.put, List.setIfInBounds_toArray, List.set_cons_zero, List.set_cons_succ, i64_w, i32_w]
          rfl
        refine take_ (i := 1) (N := some 68) (v := ?_) (a' := ?_) #[true, true, true, false, true, false, false, false, true, false, false, false, false, false, false] rfl rfl (by kernel_rfl) (fun _ _ _ h => h) (Or.inl ⟨by rfl, ?_⟩) hHeld ?_ ?_
        rotate_left
        · rintro w' hS'
          obtain ⟨s0, s1, s2⟩ := hS'
          go_simp
          with_reducible rfl
        rotate_left
        · simp only [Act.put, List.setIfInBounds_toArray, List.set_cons_zero, List.set_cons_succ, i64_w, i32_w]
          rfl
        refine take_ (i := 3) (N := some 70) (v := ?_) (a' := ?_) #[true, true, true, true, true, false, false, false, true, false, false, false, false, false, false] rfl rfl (by kernel_rfl) (fun _ _ _ h => h) (Or.inl ⟨by rfl, ?_⟩) hHeld ?_ ?_
        rotate_left
        · rintro w' hS'
          obtain ⟨s0, s1, s2⟩ := hS'
          go_simp
          with_reducible rfl
        rotate_left
        · simp only [Act.put, List.setIfInBounds_toArray, List.set_cons_zero, List.set_cons_succ, i64_w, i32_w]
          rfl
        refine take_ (i := 5) (N := some 72) (v := ?_) (a' := ?_) #[true, true, true, true, true, true, false, false, true, false, false, false, false, false, false] rfl rfl (by kernel_rfl) (fun _ _ _ h => h) (Or.inl ⟨by rfl, ?_⟩) hHeld ?_ ?_
        rotate_left
        · rintro w' hS'
          obtain ⟨s0, s1, s2⟩ := hS'
          go_simp
          with_reducible rfl
        rotate_left
        · simp only [Act.put, List.setIfInBounds_toArray, List.set_cons_zero, List.set_cons_succ, i64_w, i32_w]
          rfl
        refine take_ (i := 9) (N := some 76) (v := ?_) (a' := ?_) #[true, true, true, true, true, true, false, false, true, true, false, false, false, false, false] rfl rfl (by kernel_rfl) (fun _ _ _ h => h) (Or.inl ⟨by rfl, ?_⟩) hHeld ?_ ?_
        rotate_left
        · rintro w' hS'
          obtain ⟨s0, s1, s2⟩ := hS'
          go_simp
          with_reducible rfl
        rotate_left
        · simp only [Act.put, List.setIfInBounds_toArray, List.set_cons_zero, List.set_cons_succ, i64_w, i32_w]
          rfl
        refine one_ (i := 6) (N := some 73) #[true, true, true, true, true, true, true, false, true, true, false, false, false, false, false] rfl rfl (by kernel_rfl) (by decide) (fun K hK => ?_)
        refine slice_step (n := 3) (by rfl) (N := 73) rfl (cs := #[.int .i64 t865, .int .i64 t865, .int .i64 t849]) (t := 3) ?hr ?_
        case hr => first | (go_simp; done) | (go_simp; rfl)
        intro g975 hg w976 hbox hb
        replace HS : Aside0 (Sep (fps []) w [b8 g521 a517 a518 a519 a520, b9 g524 0 0 0 0 0 0 0 0, b9 g672 t669 (wrap64 (a518 - 8)) (wrap64 ((wrap64 (a518 - 8)) + 1)) t838 t865 t849 t891 0, b11 g975 t865 t865 t849] w976) := ⟨HS.out.box hg hbox hb⟩
        clear hg hbox hb
        refine hK.out _ _ (⟨blk_cellv (HS.out.at2) 4 rfl, blk_cellv (HS.out.at2) 5 rfl, blk_cellv (HS.out.at0) 3 rfl⟩) (fun hHeld => ?_)
        clear hK K
        refine norm_ (a' := ?_) ?_ ?_
        rotate_left
        · show Act.put _ (some 73) _ = _
          simp only [Act.put, List.setIfInBounds_toArray, List.set_cons_zero, List.set_cons_succ, i64_w, i32_w]
          rfl
        refine one_ (i := 7) (N := some 74) #[true, true, true, true, true, true, true, true, true, true, false, false, false, false, false] rfl rfl (by kernel_rfl) (by decide) (fun K hK => ?_)
        obtain ⟨t978, HA979, H⟩ := bind_some H
        refine goes_ Tryd.func122 (by kernel_rfl) rfl #[.slice (some ⟨g975, 0, none⟩) 3 3] (by rfl) rfl rfl (by (try simp only [List.map_toArray, List.map_cons, List.map_nil]); first | done | rfl) ?_
        refine (ratio_Add.calls _ [t865, t865, t849] (some ⟨g975, 0, none⟩) 3 t978 _ ⟨Rd.lit (l := []) (xs := [t865, t865, t849]) HS.out 3 rfl (by simp)⟩ ⟨HGl0.out.pass (l := []) HS.out⟩ ⟨Sep.start _⟩ HA979).mono ?_
        rintro e_ w980 ⟨rfl, hS⟩
        replace HS : Aside0 (Sep (fps []) w [b8 g521 a517 a518 a519 a520, b9 g524 0 0 0 0 0 0 0 0, b9 g672 t669 (wrap64 (a518 - 8)) (wrap64 ((wrap64 (a518 - 8)) + 1)) t838 t865 t849 t891 0, b11 g975 t865 t865 t849] w980) := ⟨HS.out.call hS⟩
        clear hS
        refine ⟨_, rfl, ?_⟩
        refine hK.out _ _ (⟨blk_cellv (HS.out.at2) 4 rfl, blk_cellv (HS.out.at2) 5 rfl, blk_cellv (HS.out.at0) 3 rfl⟩) (fun hHeld => ?_)
        clear hK K
        refine norm_ (a' := ?_) ?_ ?_
        rotate_left
        · show Act.put _ (some 74) _ = _
          simp only [Act.put, List.setIfInBounds_toArray, List.set_cons_zero, List.set_cons_succ, i64_w, i32_w]
          rfl
        refine one_ (i := 10) (N := some 77) #[true, true, true, true, true, true, true, true, true, true, true, false, false, false, false] rfl rfl (by kernel_rfl) (by decide) (fun K hK => ?_)
        obtain ⟨t981, HA982, H⟩ := bind_some H
        refine goes_ Tryd.func124 (by kernel_rfl) rfl #[.int .i64 t978, .int .i64 a520] (by rfl) rfl rfl (by (try simp only [List.map_toArray, List.map_cons, List.map_nil]); first | done | rfl) ?_
        refine (ratio_Up.calls t978 a520 t981 _ ⟨HGl0.out.pass (l := []) HS.out⟩ ⟨Sep.start _⟩ HA982).mono ?_
        rintro e_ w983 ⟨rfl, hS⟩
        replace HS : Aside0 (Sep (fps []) w [b8 g521 a517 a518 a519 a520, b9 g524 0 0 0 0 0 0 0 0, b9 g672 t669 (wrap64 (a518 - 8)) (wrap64 ((wrap64 (a518 - 8)) + 1)) t838 t865 t849 t891 0, b11 g975 t865 t865 t849] w983) := ⟨HS.out.call hS⟩
        clear hS
        refine ⟨_, rfl, ?_⟩
        refine hK.out _ _ (⟨blk_cellv (HS.out.at2) 4 rfl, blk_cellv (HS.out.at2) 5 rfl, blk_cellv (HS.out.at0) 3 rfl⟩) (fun hHeld => ?_)
        clear hK K
        refine norm_ (a' := ?_) ?_ ?_
        rotate_left
        · show Act.put _ (some 77) _ = _
          simp only [Act.put, List.setIfInBounds_toArray, List.set_cons_zero, List.set_cons_succ, i64_w, i32_w]
          rfl
        refine one_ (i := 11) (N := some 78) #[true, true, true, true, true, true, true, true, true, true, true, true, false, false, false] rfl rfl (by kernel_rfl) (by decide) (fun K hK => ?_)
        refine slice_step (n := 2) (by rfl) (N := 78) rfl (cs := #[.int .i64 t981, .int .i64 2]) (t := 3) ?hr ?_
        case hr => first | (go_simp; done) | (go_simp; rfl)
        intro g984 hg w985 hbox hb
        replace HS : Aside0 (Sep (fps []) w [b8 g521 a517 a518 a519 a520, b9 g524 0 0 0 0 0 0 0 0, b9 g672 t669 (wrap64 (a518 - 8)) (wrap64 ((wrap64 (a518 - 8)) + 1)) t838 t865 t849 t891 0, b11 g975 t865 t865 t849, b10 g984 t981 2] w985) := ⟨HS.out.box hg hbox hb⟩
        clear hg hbox hb
        refine hK.out _ _ (⟨blk_cellv (HS.out.at2) 4 rfl, blk_cellv (HS.out.at2) 5 rfl, blk_cellv (HS.out.at0) 3 rfl⟩) (fun hHeld => ?_)
        clear hK K
        refine norm_ (a' := ?_) ?_ ?_
        rotate_left
        · show Act.put _ (some 78) _ = _
          simp only [Act.put, List.setIfInBounds_toArray, List.set_cons_zero, List.set_cons_succ, i64_w, i32_w]
          rfl
        refine one_ (i := 12) (N := some 79) #[true, true, true, true, true, true, true, true, true, true, true, true, true, false, false] rfl rfl (by kernel_rfl) (by decide) (fun K hK => ?_)
        obtain ⟨t987, HA988, H⟩ := bind_some H
        refine goes_ Tryd.func122 (by kernel_rfl) rfl #[.slice (some ⟨g984, 0, none⟩) 2 2] (by rfl) rfl rfl (by (try simp only [List.map_toArray, List.map_cons, List.map_nil]); first | done | rfl) ?_
        refine (ratio_Add.calls _ [t981, 2] (some ⟨g984, 0, none⟩) 2 t987 _ ⟨Rd.lit (l := []) (xs := [t981, 2]) HS.out 4 rfl (by simp)⟩ ⟨HGl0.out.pass (l := []) HS.out⟩ ⟨Sep.start _⟩ HA988).mono ?_
        rintro e_ w989 ⟨rfl, hS⟩
        replace HS : Aside0 (Sep (fps []) w [b8 g521 a517 a518 a519 a520, b9 g524 0 0 0 0 0 0 0 0, b9 g672 t669 (wrap64 (a518 - 8)) (wrap64 ((wrap64 (a518 - 8)) + 1)) t838 t865 t849 t891 0, b11 g975 t865 t865 t849, b10 g984 t981 2] w989) := ⟨HS.out.call hS⟩
        clear hS
        refine ⟨_, rfl, ?_⟩
        refine hK.out _ _ (⟨blk_cellv (HS.out.at2) 4 rfl, blk_cellv (HS.out.at2) 5 rfl, blk_cellv (HS.out.at0) 3 rfl⟩) (fun hHeld => ?_)
        clear hK K
        refine norm_ (a' := ?_) ?_ ?_
        rotate_left
        · show Act.put _ (some 79) _ = _
          simp only [Act.put, List.setIfInBounds_toArray, List.set_cons_zero, List.set_cons_succ, i64_w, i32_w]
          rfl
        refine pure_ (i := 13) (N := some 80) (v := ?_) (a' := ?_) #[true, true, true, true, true, true, true, true, true, true, true, true, true, true, false] rfl rfl (by kernel_rfl) (fun _ _ _ h => h) (Or.inl ⟨by rfl, ?_⟩) ?_ ?_
        rotate_left
        · intro w'
          go_simp
          with_reducible rfl
        rotate_left
        · simp only [Act.put, List.setIfInBounds_toArray, List.set_cons_zero, List.set_cons_succ, i64_w, i32_w]
          rfl
        refine one_ (i := 14) (N := none) #[true, true, true, true, true, true, true, true, true, true, true, true, true, true, true] rfl rfl (by kernel_rfl) (by decide) (fun K hK => ?_)
        have hc991 := blk_cellv (v := .int .i64 0) (HS.out.at2) 7 rfl
        have hz992 := blk_fz (HS.out.at2) 7
        refine store_step (w1 := (World.setCell w989 ⟨g672, 7, none⟩ (.int .i64 t987))) (by rfl) rfl ?hr ?_
        case hr => first | (go_simp; done) | (go_simp; rfl)
        clear hc991 hz992
        intro w990 hst
        have hq0 : Sep (fps []) w [b8 g521 a517 a518 a519 a520, b9 g524 0 0 0 0 0 0 0 0, b9 g672 t669 (wrap64 (a518 - 8)) (wrap64 ((wrap64 (a518 - 8)) + 1)) t838 t865 t849 t891 t987, b11 g975 t865 t865 t849, b10 g984 t981 2] (World.setCell w989 ⟨g672, 7, none⟩ (.int .i64 t987)) := (HS.out).set1 (l1 := [b8 g521 a517 a518 a519 a520, b9 g524 0 0 0 0 0 0 0 0]) (l2 := [b11 g975 t865 t865 t849, b10 g984 t981 2]) 7 (.int .i64 t987)
        have HS_ : Aside0 (Sep (fps []) w [b8 g521 a517 a518 a519 a520, b9 g524 0 0 0 0 0 0 0 0, b9 g672 t669 (wrap64 (a518 - 8)) (wrap64 ((wrap64 (a518 - 8)) + 1)) t838 t865 t849 t891 t987, b11 g975 t865 t865 t849, b10 g984 t981 2] w990) := ⟨by rw [hst]; exact hq0⟩
        clear hq0
        clear HS hst
        have HS := HS_
        clear HS_
        refine hK.out _ _ (⟨blk_cellv (HS.out.at2) 4 rfl, blk_cellv (HS.out.at2) 5 rfl, blk_cellv (HS.out.at0) 3 rfl⟩) (fun hHeld => ?_)
        clear hK K
        refine done_ (by kernel_rfl) ?_
        replace HS : Aside0 (Sep (fps []) w [b9 g524 0 0 0 0 0 0 0 0, b9 g672 t669 (wrap64 (a518 - 8)) (wrap64 ((wrap64 (a518 - 8)) + 1)) t838 t865 t849 t891 t987] w990) := ⟨HS.out.sub (.cons _ (.cons_cons _ (.cons_cons _ (.cons _ (.cons _ .slnil)))))⟩
        have hc993 : w990.cell? ⟨g672, 0, none⟩ = some (.int .i64 t669) := blk_cellv (HS.out.at1) 0 rfl
        have hc994 : w990.cell? ⟨g672, 1, none⟩ = some (.int .i64 (wrap64 (a518 - 8))) := blk_cellv (HS.out.at1) 1 rfl
        have hc995 : w990.cell? ⟨g672, 2, none⟩ = some (.int .i64 (wrap64 ((wrap64 (a518 - 8)) + 1))) := blk_cellv (HS.out.at1) 2 rfl
        have hc996 : w990.cell? ⟨g672, 3, none⟩ = some (.int .i64 t838) := blk_cellv (HS.out.at1) 3 rfl
        have hc997 : w990.cell? ⟨g672, 4, none⟩ = some (.int .i64 t865) := blk_cellv (HS.out.at1) 4 rfl
        have hc998 : w990.cell? ⟨g672, 5, none⟩ = some (.int .i64 t849) := blk_cellv (HS.out.at1) 5 rfl
        have hc999 : w990.cell? ⟨g672, 6, none⟩ = some (.int .i64 t891) := blk_cellv (HS.out.at1) 6 rfl
        have hc1000 : w990.cell? ⟨g672, 7, none⟩ = some (.int .i64 t987) := blk_cellv (HS.out.at1) 7 rfl
        have hc1001 : w990.cell? ⟨g524, 0, none⟩ = some (.int .i64 0) := blk_cellv (HS.out.at0) 0 rfl
        have hz1002 : w990.frozen? ⟨g524, 0, none⟩ = false := blk_fz (HS.out.at0) 0
        have hc1003 : w990.cell? ⟨g524, 1, none⟩ = some (.int .i64 0) := blk_cellv (HS.out.at0) 1 rfl
        have hz1004 : w990.frozen? ⟨g524, 1, none⟩ = false := blk_fz (HS.out.at0) 1
        have hc1005 : w990.cell? ⟨g524, 2, none⟩ = some (.int .i64 0) := blk_cellv (HS.out.at0) 2 rfl
        have hz1006 : w990.frozen? ⟨g524, 2, none⟩ = false := blk_fz (HS.out.at0) 2
        have hc1007 : w990.cell? ⟨g524, 3, none⟩ = some (.int .i64 0) := blk_cellv (HS.out.at0) 3 rfl
        have hz1008 : w990.frozen? ⟨g524, 3, none⟩ = false := blk_fz (HS.out.at0) 3
        have hc1009 : w990.cell? ⟨g524, 4, none⟩ = some (.int .i64 0) := blk_cellv (HS.out.at0) 4 rfl
        have hz1010 : w990.frozen? ⟨g524, 4, none⟩ = false := blk_fz (HS.out.at0) 4
        have hc1011 : w990.cell? ⟨g524, 5, none⟩ = some (.int .i64 0) := blk_cellv (HS.out.at0) 5 rfl
        have hz1012 : w990.frozen? ⟨g524, 5, none⟩ = false := blk_fz (HS.out.at0) 5
        have hc1013 : w990.cell? ⟨g524, 6, none⟩ = some (.int .i64 0) := blk_cellv (HS.out.at0) 6 rfl
        have hz1014 : w990.frozen? ⟨g524, 6, none⟩ = false := blk_fz (HS.out.at0) 6
        have hc1015 : w990.cell? ⟨g524, 7, none⟩ = some (.int .i64 0) := blk_cellv (HS.out.at0) 7 rfl
        have hz1016 : w990.frozen? ⟨g524, 7, none⟩ = false := blk_fz (HS.out.at0) 7
        go_wp2_with (first | ((with_reducible refine gate_store (t := 97) (p := 2) rfl ?_); refine store_event (w1 := (World.setCell (World.setCell (World.setCell (World.setCell (World.setCell (World.setCell (World.setCell (World.setCell w990 ⟨g524, 0, none⟩ (.int .i64 t669)) ⟨g524, 1, none⟩ (.int .i64 (wrap64 (a518 - 8)))) ⟨g524, 2, none⟩ (.int .i64 (wrap64 ((wrap64 (a518 - 8)) + 1)))) ⟨g524, 3, none⟩ (.int .i64 t838)) ⟨g524, 4, none⟩ (.int .i64 t865)) ⟨g524, 5, none⟩ (.int .i64 t849)) ⟨g524, 6, none⟩ (.int .i64 t891)) ⟨g524, 7, none⟩ (.int .i64 t987))) rfl (t := 97) (p := 2) rfl rfl ?hr ?_; (case hr => first | (go_simp; done) | (go_simp; rfl)); intro w1017 hst; clear hc993 hc994 hc995 hc996 hc997 hc998 hc999 hc1000 hc1001 hz1002 hc1003 hz1004 hc1005 hz1006 hc1007 hz1008 hc1009 hz1010 hc1011 hz1012 hc1013 hz1014 hc1015 hz1016; replace HS : Aside0 (Sep (fps []) w [b9 g524 t669 (wrap64 (a518 - 8)) (wrap64 ((wrap64 (a518 - 8)) + 1)) t838 t865 t849 t891 t987, b9 g672 t669 (wrap64 (a518 - 8)) (wrap64 ((wrap64 (a518 - 8)) + 1)) t838 t865 t849 t891 t987] w1017) := ⟨by rw [hst]; exact HS.out.setAll (l1 := []) (l2 := [b9 g672 t669 (wrap64 (a518 - 8)) (wrap64 ((wrap64 (a518 - 8)) + 1)) t838 t865 t849 t891 t987]) [.int .i64 t669, .int .i64 (wrap64 (a518 - 8)), .int .i64 (wrap64 ((wrap64 (a518 - 8)) + 1)), .int .i64 t838, .int .i64 t865, .int .i64 t849, .int .i64 t891, .int .i64 t987] rfl⟩; clear hst; replace HS : Aside0 (Sep (fps []) w [b9 g524 t669 (wrap64 (a518 - 8)) (wrap64 ((wrap64 (a518 - 8)) + 1)) t838 t865 t849 t891 t987] w1017) := ⟨HS.out.sub (.cons_cons _ (.cons _ .slnil))⟩))
        have hc1018 : w1017.cell? ⟨g524, 0, none⟩ = some (.int .i64 t669) := blk_cellv (HS.out.at0) 0 rfl
        have hc1019 : w1017.cell? ⟨g524, 1, none⟩ = some (.int .i64 (wrap64 (a518 - 8))) := blk_cellv (HS.out.at0) 1 rfl
        have hc1020 : w1017.cell? ⟨g524, 2, none⟩ = some (.int .i64 (wrap64 ((wrap64 (a518 - 8)) + 1))) := blk_cellv (HS.out.at0) 2 rfl
        have hc1021 : w1017.cell? ⟨g524, 3, none⟩ = some (.int .i64 t838) := blk_cellv (HS.out.at0) 3 rfl
        have hc1022 : w1017.cell? ⟨g524, 4, none⟩ = some (.int .i64 t865) := blk_cellv (HS.out.at0) 4 rfl
        have hc1023 : w1017.cell? ⟨g524, 5, none⟩ = some (.int .i64 t849) := blk_cellv (HS.out.at0) 5 rfl
        have hc1024 : w1017.cell? ⟨g524, 6, none⟩ = some (.int .i64 t891) := blk_cellv (HS.out.at0) 6 rfl
        have hc1025 : w1017.cell? ⟨g524, 7, none⟩ = some (.int .i64 t987) := blk_cellv (HS.out.at0) 7 rfl
        refine bodyPost_ret (v := .tuple #[.agg #[.int .i64 t669, .int .i64 (wrap64 (a518 - 8)), .int .i64 (wrap64 ((wrap64 (a518 - 8)) + 1)), .int .i64 t838, .int .i64 t865, .int .i64 t849, .int .i64 t891, .int .i64 t987], .int .i64 0]) (by simp [results, Tryd.results65, go_sem, hc1018, hc1019, hc1020, hc1021, hc1022, hc1023, hc1024, hc1025]) rfl ?_
        rw [← some_eq H]
        exact ⟨(by first | rfl | (simp [IntKind.wrap_u32]; done)), HS.out.sub (.cons _ .slnil)⟩
  · replace H := if_no c570 H
    have c570b0 : (t567 == 0) = false := beq_eq_false_iff_ne.mpr c570
    have c570b1 : (t567 != 0) = true := bne_iff_ne.mpr c570
    clear c570
    have hc1026 : w569.cell? ⟨g524, 0, none⟩ = some (.int .i64 0) := blk_cellv (HS.out.at1) 0 rfl
    have hz1027 : w569.frozen? ⟨g524, 0, none⟩ = false := blk_fz (HS.out.at1) 0
    have hc1028 : w569.cell? ⟨g524, 1, none⟩ = some (.int .i64 0) := blk_cellv (HS.out.at1) 1 rfl
    have hz1029 : w569.frozen? ⟨g524, 1, none⟩ = false := blk_fz (HS.out.at1) 1
    have hc1030 : w569.cell? ⟨g524, 2, none⟩ = some (.int .i64 0) := blk_cellv (HS.out.at1) 2 rfl
    have hz1031 : w569.frozen? ⟨g524, 2, none⟩ = false := blk_fz (HS.out.at1) 2
    have hc1032 : w569.cell? ⟨g524, 3, none⟩ = some (.int .i64 0) := blk_cellv (HS.out.at1) 3 rfl
    have hz1033 : w569.frozen? ⟨g524, 3, none⟩ = false := blk_fz (HS.out.at1) 3
    have hc1034 : w569.cell? ⟨g524, 4, none⟩ = some (.int .i64 0) := blk_cellv (HS.out.at1) 4 rfl
    have hz1035 : w569.frozen? ⟨g524, 4, none⟩ = false := blk_fz (HS.out.at1) 4
    have hc1036 : w569.cell? ⟨g524, 5, none⟩ = some (.int .i64 0) := blk_cellv (HS.out.at1) 5 rfl
    have hz1037 : w569.frozen? ⟨g524, 5, none⟩ = false := blk_fz (HS.out.at1) 5
    have hc1038 : w569.cell? ⟨g524, 6, none⟩ = some (.int .i64 0) := blk_cellv (HS.out.at1) 6 rfl
    have hz1039 : w569.frozen? ⟨g524, 6, none⟩ = false := blk_fz (HS.out.at1) 6
    have hc1040 : w569.cell? ⟨g524, 7, none⟩ = some (.int .i64 0) := blk_cellv (HS.out.at1) 7 rfl
    have hz1041 : w569.frozen? ⟨g524, 7, none⟩ = false := blk_fz (HS.out.at1) 7
    go_wp2_with (first | ((with_reducible refine gate_store (t := 97) (p := 2) rfl ?_); refine store_event (w1 := (World.setCell (World.setCell (World.setCell (World.setCell (World.setCell (World.setCell (World.setCell (World.setCell w569 ⟨g524, 0, none⟩ (.int .i64 0)) ⟨g524, 1, none⟩ (.int .i64 0)) ⟨g524, 2, none⟩ (.int .i64 0)) ⟨g524, 3, none⟩ (.int .i64 0)) ⟨g524, 4, none⟩ (.int .i64 0)) ⟨g524, 5, none⟩ (.int .i64 0)) ⟨g524, 6, none⟩ (.int .i64 0)) ⟨g524, 7, none⟩ (.int .i64 0))) rfl (t := 97) (p := 2) rfl rfl ?hr ?_; (case hr => first | (go_simp; done) | (go_simp; rfl)); intro w1042 hst; clear hc1026 hz1027 hc1028 hz1029 hc1030 hz1031 hc1032 hz1033 hc1034 hz1035 hc1036 hz1037 hc1038 hz1039 hc1040 hz1041; replace HS : Aside0 (Sep (fps []) w [b8 g521 a517 a518 a519 a520, b9 g524 0 0 0 0 0 0 0 0] w1042) := ⟨by rw [hst]; exact HS.out.setAll (l1 := [b8 g521 a517 a518 a519 a520]) (l2 := []) [.int .i64 0, .int .i64 0, .int .i64 0, .int .i64 0, .int .i64 0, .int .i64 0, .int .i64 0, .int .i64 0] rfl⟩; clear hst; replace HS : Aside0 (Sep (fps []) w [b9 g524 0 0 0 0 0 0 0 0] w1042) := ⟨HS.out.sub (.cons _ (.cons_cons _ .slnil))⟩))
    have hc1043 : w1042.cell? ⟨g524, 0, none⟩ = some (.int .i64 0) := blk_cellv (HS.out.at0) 0 rfl
    have hc1044 : w1042.cell? ⟨g524, 1, none⟩ = some (.int .i64 0) := blk_cellv (HS.out.at0) 1 rfl
    have hc1045 : w1042.cell? ⟨g524, 2, none⟩ = some (.int .i64 0) := blk_cellv (HS.out.at0) 2 rfl
    have hc1046 : w1042.cell? ⟨g524, 3, none⟩ = some (.int .i64 0) := blk_cellv (HS.out.at0) 3 rfl
    have hc1047 : w1042.cell? ⟨g524, 4, none⟩ = some (.int .i64 0) := blk_cellv (HS.out.at0) 4 rfl
    have hc1048 : w1042.cell? ⟨g524, 5, none⟩ = some (.int .i64 0) := blk_cellv (HS.out.at0) 5 rfl
    have hc1049 : w1042.cell? ⟨g524, 6, none⟩ = some (.int .i64 0) := blk_cellv (HS.out.at0) 6 rfl
    have hc1050 : w1042.cell? ⟨g524, 7, none⟩ = some (.int .i64 0) := blk_cellv (HS.out.at0) 7 rfl
    refine bodyPost_ret (v := .tuple #[.agg #[.int .i64 0, .int .i64 0, .int .i64 0, .int .i64 0, .int .i64 0, .int .i64 0, .int .i64 0, .int .i64 0], .int .i64 t567]) (by simp [results, Tryd.results65, go_sem, hc1043, hc1044, hc1045, hc1046, hc1047, hc1048, hc1049, hc1050]) rfl ?_
    rw [← some_eq H]
    exact ⟨(by first | rfl | (simp [IntKind.wrap_u32]; done)), HS.out.sub (.cons _ .slnil)⟩

set_option maxHeartbeats 30000000 in
set_option maxRecDepth 100000 in
theorem store_New.calls (a1076 : Int) (r : Unit ⊕ (List Int)) (w : World)  (HGl0 : Aside0 (Gl 0 #[.int .i64 0, .int .i64 0, .int .i64 0, .int .i64 0, .int .i64 0] (fps []) w)) (HS : Aside0 (Sep (fps []) w [] w)) (H : Aside0 (store_New.f a1076 = some r)) :
    Calls Tryd.prog 66 #[.int .i64 a1076] w fun e w' => Sum.elim (fun (r : Unit) => e = .returned (.tuple #[.pointer none, .int .i64 2]) ∧ Sep (fps []) w [] w') (fun (r : List Int) => ∃ (g1112 : Nat), e = .returned (.tuple #[.pointer (some ⟨g1112, 0, none⟩), .int .i64 0]) ∧ ∃ (A1113 : Option Addr) (m1114 : Nat) (n1115 : Nat), Sep (fps []) w [b12 g1112 A1113 m1114 n1115 0, r4 A1113 m1114 n1115 r] w') r := by
  unfold store_New.f at H
  go_enter Tryd.func66, Tryd.ntmps66
  by_cases c1090 : a1076 < 0
  · replace H := if_yes c1090 H
    have c1090b0 : decide (a1076 < 0) = true := decide_eq_true c1090
    clear c1090
    go_wp2_with fail
    go_ret2
    rw [← some_eq H]
    exact ⟨(by first | rfl | (simp [IntKind.wrap_u32]; done)), HS.out⟩
  · replace H := if_no c1090 H
    have c1090b0 : decide (a1076 < 0) = false := decide_eq_false c1090
    clear c1090
    by_cases c1091 : a1076 > 8388608
    · replace H := if_yes c1091 H
      have c1091b0 : decide (8388608 < a1076) = true := decide_eq_true c1091
      clear c1091
      go_wp2_with fail
      go_ret2
      rw [← some_eq H]
      exact ⟨(by first | rfl | (simp [IntKind.wrap_u32]; done)), HS.out⟩
    · replace H := if_no c1091 H
      have c1091b0 : decide (8388608 < a1076) = false := decide_eq_false c1091
      clear c1091
      obtain ⟨m1092, HA1093, H⟩ := bind_some H
      obtain ⟨hm1094, hn1095⟩ := mkLen_eq HA1093
      have hm1094H := Aside0.mk hm1094
      clear hm1094
      go_wp2_with (first | ((with_reducible refine gate_dst (N := 11) rfl ?_); refine make_event rfl (N := 11) rfl 69 33 (.tmp 10) (.tmp 10) rfl .i64 (.int .u32 0) 4 Tryd.underlying69 (by kernel_rfl) rfl (by decide) (Value.int .u32) 0 rfl m1092 (by show Value.int _ _ = _; rw [hm1094H.out]) (by show Value.int _ _ = _; rw [hm1094H.out]) (by omega) HS.out ?_; intro g1096 w1097 HS1; replace HS : Aside0 (Sep (fps []) w [r4 (some ⟨g1096, 0, none⟩) m1092 m1092 (List.replicate m1092 (0 : Int))] w1097) := ⟨HS1⟩; clear HS1) | ((with_reducible refine gate_dst (N := 13) rfl ?_); refine box_on ?hg (N := 13) ?hd (cs := #[.slice (some ⟨g1096, 0, none⟩) m1092 m1092, .int .u64 0]) (t := 154) ?hr ?_; (case hd => rfl); (case hg => rfl); (case hr => first | (go_simp; done) | (go_simp; rfl)); intro g1100 hg w1101 hbox hb; replace HS : Aside0 (Sep (fps []) w [r4 (some ⟨g1096, 0, none⟩) m1092 m1092 (List.replicate m1092 (0 : Int)), b12 g1100 (some ⟨g1096, 0, none⟩) m1092 m1092 0] w1101) := ⟨HS.out.box hg hbox hb⟩; clear hg hbox hb))
      go_ret2
      rw [← some_eq H]
      exact ⟨g1100, (by first | rfl | (simp [IntKind.wrap_u32]; done)), (some ⟨g1096, 0, none⟩), m1092, m1092, ((HS.out).front 1 (by simp)).keep (l := [b12 g1100 (some ⟨g1096, 0, none⟩) m1092 m1092 0, r4 (some ⟨g1096, 0, none⟩) m1092 m1092 (List.replicate m1092 (0 : Int))]) (rest := [])⟩

set_option maxHeartbeats 30000000 in
set_option maxRecDepth 100000 in
theorem ground_New.calls (k : Nat) (a506 : Int) (a507 : Int) (a508 : Int) (a509 : Int) (r : Unit ⊕ ((Int × Int × Int × Int × List Int) ⊕ Int)) (w : World)  (HGl0 : Aside0 (Gl 0 #[.int .i64 0, .int .i64 0, .int .i64 0, .int .i64 0, .int .i64 0] (fps []) w)) (HS : Aside0 (Sep (fps []) w [] w)) (H : Aside0 (ground_New.f k a506 a507 a508 a509 = some r)) :
    Calls Tryd.prog 15 #[.agg #[.int .i64 a506, .int .i64 a507, .int .i64 a508, .int .i64 a509]] w fun e w' => Sum.elim (fun (r : Unit) => e = .returned (.tuple #[.pointer none, .int .i64 2]) ∧ Sep (fps []) w [] w') (fun (r_ : (Int × Int × Int × Int × List Int) ⊕ Int) => Sum.elim (fun (r : Int × Int × Int × Int × List Int) => ∃ (g1262 : Nat), e = .returned (.tuple #[.pointer (some ⟨g1262, 0, none⟩), .int .i64 0]) ∧ ∃ (g1263 : Nat) (A1264 : Option Addr) (m1265 : Nat) (n1266 : Nat), Sep (fps []) w [b13 g1262 g1263 r.1 r.2.1 r.2.2.1 r.2.2.2.1, b12 g1263 A1264 m1265 n1266 0, r4 A1264 m1265 n1266 r.2.2.2.2] w') (fun (r : Int) => e = .returned (.tuple #[.pointer none, .int .i64 r]) ∧ Sep (fps []) w [] w') r_) r := by
  unfold ground_New.f at H
  go_enter Tryd.func15, Tryd.ntmps15
  go_wp2_with (first | ((with_reducible refine gate_dst (N := 1) rfl ?_); refine box_on ?hg (N := 1) ?hd (cs := #[.int .i64 a506, .int .i64 a507, .int .i64 a508, .int .i64 a509]) (t := 30) ?hr ?_; (case hd => rfl); (case hg => rfl); (case hr => first | (go_simp; done) | (go_simp; rfl)); intro g1198 hg w1199 hbox hb; replace HS : Aside0 (Sep (fps []) w [b8 g1198 a506 a507 a508 a509] w1199) := ⟨HS.out.box hg hbox hb⟩; clear hg hbox hb; have hc1201 : w1199.cell? ⟨g1198, 0, none⟩ = some (.int .i64 a506) := blk_cellv (HS.out.at0) 0 rfl; have hc1202 : w1199.cell? ⟨g1198, 1, none⟩ = some (.int .i64 a507) := blk_cellv (HS.out.at0) 1 rfl; have hc1203 : w1199.cell? ⟨g1198, 2, none⟩ = some (.int .i64 a508) := blk_cellv (HS.out.at0) 2 rfl; have hc1204 : w1199.cell? ⟨g1198, 3, none⟩ = some (.int .i64 a509) := blk_cellv (HS.out.at0) 3 rfl))
  clear hc1201 hc1202 hc1203 hc1204
  obtain ⟨t1205, HA1206, H⟩ := bind_some H
  refine (plan_Of.calls _ a506 a507 a508 a509 t1205 _ ⟨HGl0.out.pass (l := []) HS.out⟩ ⟨Sep.start _⟩ HA1206).mono ?_
  rintro e_ w1207 ⟨rfl, hS⟩
  replace HS : Aside0 (Sep (fps []) w [b8 g1198 a506 a507 a508 a509] w1207) := ⟨HS.out.call hS⟩
  clear hS
  by_cases c1228 : t1205.2.2.2.2.2.2.2.2 = 0
  · replace H := if_yes c1228 H
    have c1228b0 : (t1205.2.2.2.2.2.2.2.2 == 0) = true := beq_iff_eq.mpr c1228
    have c1228b1 : (t1205.2.2.2.2.2.2.2.2 != 0) = false := bne_eq_false_iff_eq.mpr c1228
    clear c1228
    go_wp2_with (first | ((with_reducible refine gate_dst (N := 4) rfl ?_); refine box_on ?hg (N := 4) ?hd (cs := #[.int .i64 0, .int .i64 0, .int .i64 0, .int .i64 0, .int .i64 0, .int .i64 0, .int .i64 0, .int .i64 0]) (t := 97) ?hr ?_; (case hd => rfl); (case hg => rfl); (case hr => first | (go_simp; done) | (go_simp; rfl)); intro g1208 hg w1209 hbox hb; replace HS : Aside0 (Sep (fps []) w [b8 g1198 a506 a507 a508 a509, b9 g1208 0 0 0 0 0 0 0 0] w1209) := ⟨HS.out.box hg hbox hb⟩; clear hg hbox hb; have hc1211 : w1209.cell? ⟨g1208, 0, none⟩ = some (.int .i64 0) := blk_cellv (HS.out.at1) 0 rfl; have hz1212 : w1209.frozen? ⟨g1208, 0, none⟩ = false := blk_fz (HS.out.at1) 0; have hc1213 : w1209.cell? ⟨g1208, 1, none⟩ = some (.int .i64 0) := blk_cellv (HS.out.at1) 1 rfl; have hz1214 : w1209.frozen? ⟨g1208, 1, none⟩ = false := blk_fz (HS.out.at1) 1; have hc1215 : w1209.cell? ⟨g1208, 2, none⟩ = some (.int .i64 0) := blk_cellv (HS.out.at1) 2 rfl; have hz1216 : w1209.frozen? ⟨g1208, 2, none⟩ = false := blk_fz (HS.out.at1) 2; have hc1217 : w1209.cell? ⟨g1208, 3, none⟩ = some (.int .i64 0) := blk_cellv (HS.out.at1) 3 rfl; have hz1218 : w1209.frozen? ⟨g1208, 3, none⟩ = false := blk_fz (HS.out.at1) 3; have hc1219 : w1209.cell? ⟨g1208, 4, none⟩ = some (.int .i64 0) := blk_cellv (HS.out.at1) 4 rfl; have hz1220 : w1209.frozen? ⟨g1208, 4, none⟩ = false := blk_fz (HS.out.at1) 4; have hc1221 : w1209.cell? ⟨g1208, 5, none⟩ = some (.int .i64 0) := blk_cellv (HS.out.at1) 5 rfl; have hz1222 : w1209.frozen? ⟨g1208, 5, none⟩ = false := blk_fz (HS.out.at1) 5; have hc1223 : w1209.cell? ⟨g1208, 6, none⟩ = some (.int .i64 0) := blk_cellv (HS.out.at1) 6 rfl; have hz1224 : w1209.frozen? ⟨g1208, 6, none⟩ = false := blk_fz (HS.out.at1) 6; have hc1225 : w1209.cell? ⟨g1208, 7, none⟩ = some (.int .i64 0) := blk_cellv (HS.out.at1) 7 rfl; have hz1226 : w1209.frozen? ⟨g1208, 7, none⟩ = false := blk_fz (HS.out.at1) 7) | ((with_reducible refine gate_store (t := 97) (p := 4) rfl ?_); refine store_event (w1 := (World.setCell (World.setCell (World.setCell (World.setCell (World.setCell (World.setCell (World.setCell (World.setCell w1209 ⟨g1208, 0, none⟩ (.int .i64 t1205.1)) ⟨g1208, 1, none⟩ (.int .i64 t1205.2.1)) ⟨g1208, 2, none⟩ (.int .i64 t1205.2.2.1)) ⟨g1208, 3, none⟩ (.int .i64 t1205.2.2.2.1)) ⟨g1208, 4, none⟩ (.int .i64 t1205.2.2.2.2.1)) ⟨g1208, 5, none⟩ (.int .i64 t1205.2.2.2.2.2.1)) ⟨g1208, 6, none⟩ (.int .i64 t1205.2.2.2.2.2.2.1)) ⟨g1208, 7, none⟩ (.int .i64 t1205.2.2.2.2.2.2.2.1))) rfl (t := 97) (p := 4) rfl rfl ?hr ?_; (case hr => first | (go_simp; done) | (go_simp; rfl)); intro w1227 hst; clear hc1211 hz1212 hc1213 hz1214 hc1215 hz1216 hc1217 hz1218 hc1219 hz1220 hc1221 hz1222 hc1223 hz1224 hc1225 hz1226; replace HS : Aside0 (Sep (fps []) w [b8 g1198 a506 a507 a508 a509, b9 g1208 t1205.1 t1205.2.1 t1205.2.2.1 t1205.2.2.2.1 t1205.2.2.2.2.1 t1205.2.2.2.2.2.1 t1205.2.2.2.2.2.2.1 t1205.2.2.2.2.2.2.2.1] w1227) := ⟨by rw [hst]; exact HS.out.setAll (l1 := [b8 g1198 a506 a507 a508 a509]) (l2 := []) [.int .i64 t1205.1, .int .i64 t1205.2.1, .int .i64 t1205.2.2.1, .int .i64 t1205.2.2.2.1, .int .i64 t1205.2.2.2.2.1, .int .i64 t1205.2.2.2.2.2.1, .int .i64 t1205.2.2.2.2.2.2.1, .int .i64 t1205.2.2.2.2.2.2.2.1] rfl⟩; clear hst; have hc1229 : w1227.cell? ⟨g1208, 0, none⟩ = some (.int .i64 t1205.1) := blk_cellv (HS.out.at1) 0 rfl))
    clear hc1229
    obtain ⟨t1230, HA1231, H⟩ := bind_some H
    rcases t1230 with t1232 | t1233
    · have H := sum_l H
      refine (store_New.calls t1205.1 (.inl t1232) _ ⟨HGl0.out.pass (l := []) HS.out⟩ ⟨Sep.start _⟩ HA1231).mono ?_
      rintro e_ w1234 ⟨rfl, hS⟩
      replace HS : Aside0 (Sep (fps []) w [b8 g1198 a506 a507 a508 a509, b9 g1208 t1205.1 t1205.2.1 t1205.2.2.1 t1205.2.2.2.1 t1205.2.2.2.2.1 t1205.2.2.2.2.2.1 t1205.2.2.2.2.2.2.1 t1205.2.2.2.2.2.2.2.1] w1234) := ⟨HS.out.call hS⟩
      clear hS
      replace HS : Aside0 (Sep (fps []) w [b8 g1198 a506 a507 a508 a509] w1234) := ⟨HS.out.sub (.cons_cons _ (.cons _ .slnil))⟩
      replace HS : Aside0 (Sep (fps []) w [] w1234) := ⟨HS.out.sub (.cons _ .slnil)⟩
      go_wp2_with fail
      go_ret2
      rw [← some_eq H]
      exact ⟨(by first | rfl | (simp [IntKind.wrap_u32]; done)), HS.out⟩
    · have H := sum_r H
      refine (store_New.calls t1205.1 (.inr t1233) _ ⟨HGl0.out.pass (l := []) HS.out⟩ ⟨Sep.start _⟩ HA1231).mono ?_
      rintro e_ w1235 ⟨g1238, rfl, A1239, m1240, n1241, hS⟩
      replace HS : Aside0 (Sep (fps []) w [b12 g1238 A1239 m1240 n1241 0, r4 A1239 m1240 n1241 t1233, b8 g1198 a506 a507 a508 a509, b9 g1208 t1205.1 t1205.2.1 t1205.2.2.1 t1205.2.2.2.1 t1205.2.2.2.2.1 t1205.2.2.2.2.2.1 t1205.2.2.2.2.2.2.1 t1205.2.2.2.2.2.2.2.1] w1235) := ⟨HS.out.call hS⟩
      clear hS
      obtain rfl := (row_len (HS.out.at1)).symm
      replace HS : Aside0 (Sep (fps []) w [b12 g1238 A1239 t1233.length n1241 0, r4 A1239 t1233.length n1241 t1233, b8 g1198 a506 a507 a508 a509] w1235) := ⟨HS.out.sub (.cons_cons _ (.cons_cons _ (.cons_cons _ (.cons _ .slnil))))⟩
      have hc1243 : w1235.cell? ⟨g1198, 0, none⟩ = some (.int .i64 a506) := blk_cellv (HS.out.at2) 0 rfl
      have hc1244 : w1235.cell? ⟨g1198, 1, none⟩ = some (.int .i64 a507) := blk_cellv (HS.out.at2) 1 rfl
      have hc1245 : w1235.cell? ⟨g1198, 2, none⟩ = some (.int .i64 a508) := blk_cellv (HS.out.at2) 2 rfl
      have hc1246 : w1235.cell? ⟨g1198, 3, none⟩ = some (.int .i64 a509) := blk_cellv (HS.out.at2) 3 rfl
      go_wp2_with (first | ((with_reducible refine gate_dst (N := 28) rfl ?_); refine box_on ?hg (N := 28) ?hd (cs := #[.pointer (some ⟨g1238, 0, none⟩), .int .i64 a506, .int .i64 a507, .int .i64 a508, .int .i64 a509]) (t := 106) ?hr ?_; (case hd => rfl); (case hg => rfl); (case hr => first | (go_simp; done) | (go_simp; rfl)); intro g1247 hg w1248 hbox hb; clear hc1243 hc1244 hc1245 hc1246; replace HS : Aside0 (Sep (fps []) w [b12 g1238 A1239 t1233.length n1241 0, r4 A1239 t1233.length n1241 t1233, b8 g1198 a506 a507 a508 a509, b13 g1247 g1238 a506 a507 a508 a509] w1248) := ⟨HS.out.box hg hbox hb⟩; clear hg hbox hb; replace HS : Aside0 (Sep (fps []) w [b12 g1238 A1239 t1233.length n1241 0, r4 A1239 t1233.length n1241 t1233, b13 g1247 g1238 a506 a507 a508 a509] w1248) := ⟨HS.out.sub (.cons_cons _ (.cons_cons _ (.cons _ (.cons_cons _ .slnil))))⟩))
      go_ret2
      rw [← some_eq H]
      exact ⟨g1247, (by first | rfl | (simp [IntKind.wrap_u32]; done)), g1238, A1239, t1233.length, n1241, ((((HS.out).front 1 (by simp)).front 1 (by simp)).front 2 (by simp)).keep (l := [b13 g1247 g1238 a506 a507 a508 a509, b12 g1238 A1239 t1233.length n1241 0, r4 A1239 t1233.length n1241 t1233]) (rest := [])⟩
  · replace H := if_no c1228 H
    have c1228b0 : (t1205.2.2.2.2.2.2.2.2 == 0) = false := beq_eq_false_iff_ne.mpr c1228
    have c1228b1 : (t1205.2.2.2.2.2.2.2.2 != 0) = true := bne_iff_ne.mpr c1228
    clear c1228
    go_wp2_with (first | ((with_reducible refine gate_dst (N := 4) rfl ?_); refine box_on ?hg (N := 4) ?hd (cs := #[.int .i64 0, .int .i64 0, .int .i64 0, .int .i64 0, .int .i64 0, .int .i64 0, .int .i64 0, .int .i64 0]) (t := 97) ?hr ?_; (case hd => rfl); (case hg => rfl); (case hr => first | (go_simp; done) | (go_simp; rfl)); intro g1208 hg w1209 hbox hb; replace HS : Aside0 (Sep (fps []) w [b8 g1198 a506 a507 a508 a509, b9 g1208 0 0 0 0 0 0 0 0] w1209) := ⟨HS.out.box hg hbox hb⟩; clear hg hbox hb; have hc1211 : w1209.cell? ⟨g1208, 0, none⟩ = some (.int .i64 0) := blk_cellv (HS.out.at1) 0 rfl; have hz1212 : w1209.frozen? ⟨g1208, 0, none⟩ = false := blk_fz (HS.out.at1) 0; have hc1213 : w1209.cell? ⟨g1208, 1, none⟩ = some (.int .i64 0) := blk_cellv (HS.out.at1) 1 rfl; have hz1214 : w1209.frozen? ⟨g1208, 1, none⟩ = false := blk_fz (HS.out.at1) 1; have hc1215 : w1209.cell? ⟨g1208, 2, none⟩ = some (.int .i64 0) := blk_cellv (HS.out.at1) 2 rfl; have hz1216 : w1209.frozen? ⟨g1208, 2, none⟩ = false := blk_fz (HS.out.at1) 2; have hc1217 : w1209.cell? ⟨g1208, 3, none⟩ = some (.int .i64 0) := blk_cellv (HS.out.at1) 3 rfl; have hz1218 : w1209.frozen? ⟨g1208, 3, none⟩ = false := blk_fz (HS.out.at1) 3; have hc1219 : w1209.cell? ⟨g1208, 4, none⟩ = some (.int .i64 0) := blk_cellv (HS.out.at1) 4 rfl; have hz1220 : w1209.frozen? ⟨g1208, 4, none⟩ = false := blk_fz (HS.out.at1) 4; have hc1221 : w1209.cell? ⟨g1208, 5, none⟩ = some (.int .i64 0) := blk_cellv (HS.out.at1) 5 rfl; have hz1222 : w1209.frozen? ⟨g1208, 5, none⟩ = false := blk_fz (HS.out.at1) 5; have hc1223 : w1209.cell? ⟨g1208, 6, none⟩ = some (.int .i64 0) := blk_cellv (HS.out.at1) 6 rfl; have hz1224 : w1209.frozen? ⟨g1208, 6, none⟩ = false := blk_fz (HS.out.at1) 6; have hc1225 : w1209.cell? ⟨g1208, 7, none⟩ = some (.int .i64 0) := blk_cellv (HS.out.at1) 7 rfl; have hz1226 : w1209.frozen? ⟨g1208, 7, none⟩ = false := blk_fz (HS.out.at1) 7) | ((with_reducible refine gate_store (t := 97) (p := 4) rfl ?_); refine store_event (w1 := (World.setCell (World.setCell (World.setCell (World.setCell (World.setCell (World.setCell (World.setCell (World.setCell w1209 ⟨g1208, 0, none⟩ (.int .i64 t1205.1)) ⟨g1208, 1, none⟩ (.int .i64 t1205.2.1)) ⟨g1208, 2, none⟩ (.int .i64 t1205.2.2.1)) ⟨g1208, 3, none⟩ (.int .i64 t1205.2.2.2.1)) ⟨g1208, 4, none⟩ (.int .i64 t1205.2.2.2.2.1)) ⟨g1208, 5, none⟩ (.int .i64 t1205.2.2.2.2.2.1)) ⟨g1208, 6, none⟩ (.int .i64 t1205.2.2.2.2.2.2.1)) ⟨g1208, 7, none⟩ (.int .i64 t1205.2.2.2.2.2.2.2.1))) rfl (t := 97) (p := 4) rfl rfl ?hr ?_; (case hr => first | (go_simp; done) | (go_simp; rfl)); intro w1227 hst; clear hc1211 hz1212 hc1213 hz1214 hc1215 hz1216 hc1217 hz1218 hc1219 hz1220 hc1221 hz1222 hc1223 hz1224 hc1225 hz1226; replace HS : Aside0 (Sep (fps []) w [b8 g1198 a506 a507 a508 a509, b9 g1208 t1205.1 t1205.2.1 t1205.2.2.1 t1205.2.2.2.1 t1205.2.2.2.2.1 t1205.2.2.2.2.2.1 t1205.2.2.2.2.2.2.1 t1205.2.2.2.2.2.2.2.1] w1227) := ⟨by rw [hst]; exact HS.out.setAll (l1 := [b8 g1198 a506 a507 a508 a509]) (l2 := []) [.int .i64 t1205.1, .int .i64 t1205.2.1, .int .i64 t1205.2.2.1, .int .i64 t1205.2.2.2.1, .int .i64 t1205.2.2.2.2.1, .int .i64 t1205.2.2.2.2.2.1, .int .i64 t1205.2.2.2.2.2.2.1, .int .i64 t1205.2.2.2.2.2.2.2.1] rfl⟩; clear hst; replace HS : Aside0 (Sep (fps []) w [] w1227) := ⟨HS.out.sub (.cons _ (.cons _ .slnil))⟩))
    go_ret2
    rw [← some_eq H]
    exact ⟨(by first | rfl | (simp [IntKind.wrap_u32]; done)), HS.out⟩

set_option maxHeartbeats 30000000 in
set_option maxRecDepth 100000 in
theorem ground_Ground_all.calls (l1365 : List Int) (a1370 : Int) (a1371 : Int) (a1372 : Int) (a1373 : Int) (a1374 : Int) (g1361 : Nat) (g1363 : Nat) (A1366 : Option Addr) (m1367 : Nat) (n1368 : Nat) (r : Unit) (w : World)  (HGl0 : Aside0 (Gl 0 #[.int .i64 0, .int .i64 0, .int .i64 0, .int .i64 0, .int .i64 0] (fps [b13 g1361 g1363 a1371 a1372 a1373 a1374, b12 g1363 A1366 m1367 n1368 a1370, r4 A1366 m1367 n1368 l1365]) w)) (HS : Aside0 (Sep (fps [b13 g1361 g1363 a1371 a1372 a1373 a1374, b12 g1363 A1366 m1367 n1368 a1370, r4 A1366 m1367 n1368 l1365]) w [b13 g1361 g1363 a1371 a1372 a1373 a1374, b12 g1363 A1366 m1367 n1368 a1370, r4 A1366 m1367 n1368 l1365] w)) (H : Aside0 (ground_Ground_all.f l1365 a1370 a1371 a1372 a1373 a1374 = some r)) :
    Calls Tryd.prog 70 #[.pointer (some ⟨g1361, 0, none⟩)] w fun e w' => e = .returned (.pointer (some ⟨g1363, 0, none⟩)) ∧ Sep (fps [b13 g1361 g1363 a1371 a1372 a1373 a1374, b12 g1363 A1366 m1367 n1368 a1370, r4 A1366 m1367 n1368 l1365]) w [b13 g1361 g1363 a1371 a1372 a1373 a1374, b12 g1363 A1366 m1367 n1368 a1370, r4 A1366 m1367 n1368 l1365] w' := by
  generalize (fps [b13 g1361 g1363 a1371 a1372 a1373 a1374, b12 g1363 A1366 m1367 n1368 a1370, r4 A1366 m1367 n1368 l1365]) = FF at HS HGl0 ⊢
  obtain rfl := (row_len (HS.out.at2)).symm
  unfold ground_Ground_all.f at H
  go_enter Tryd.func70, Tryd.ntmps70
  have hc1375 : w.cell? ⟨g1361, 0, none⟩ = some (.pointer (some ⟨g1363, 0, none⟩)) := blk_cellv (HS.out.at0) 0 rfl
  go_wp2_with fail
  clear hc1375
  go_ret
  clear H
  exact ⟨(by first | rfl | (simp [IntKind.wrap_u32]; done)), HS.out⟩

set_option maxHeartbeats 30000000 in
set_option maxRecDepth 100000 in
theorem ground_Ground_Conf.calls (l1401 : List Int) (a1406 : Int) (a1407 : Int) (a1408 : Int) (a1409 : Int) (a1410 : Int) (g1397 : Nat) (g1399 : Nat) (A1402 : Option Addr) (m1403 : Nat) (n1404 : Nat) (r : Int × Int × Int × Int) (w : World)  (HGl0 : Aside0 (Gl 0 #[.int .i64 0, .int .i64 0, .int .i64 0, .int .i64 0, .int .i64 0] (fps [b13 g1397 g1399 a1407 a1408 a1409 a1410, b12 g1399 A1402 m1403 n1404 a1406, r4 A1402 m1403 n1404 l1401]) w)) (HS : Aside0 (Sep (fps [b13 g1397 g1399 a1407 a1408 a1409 a1410, b12 g1399 A1402 m1403 n1404 a1406, r4 A1402 m1403 n1404 l1401]) w [b13 g1397 g1399 a1407 a1408 a1409 a1410, b12 g1399 A1402 m1403 n1404 a1406, r4 A1402 m1403 n1404 l1401] w)) (H : Aside0 (ground_Ground_Conf.f l1401 a1406 a1407 a1408 a1409 a1410 = some r)) :
    Calls Tryd.prog 86 #[.pointer (some ⟨g1397, 0, none⟩)] w fun e w' => e = .returned (.agg #[.int .i64 r.1, .int .i64 r.2.1, .int .i64 r.2.2.1, .int .i64 r.2.2.2]) ∧ Sep (fps [b13 g1397 g1399 a1407 a1408 a1409 a1410, b12 g1399 A1402 m1403 n1404 a1406, r4 A1402 m1403 n1404 l1401]) w [b13 g1397 g1399 a1407 a1408 a1409 a1410, b12 g1399 A1402 m1403 n1404 a1406, r4 A1402 m1403 n1404 l1401] w' := by
  generalize (fps [b13 g1397 g1399 a1407 a1408 a1409 a1410, b12 g1399 A1402 m1403 n1404 a1406, r4 A1402 m1403 n1404 l1401]) = FF at HS HGl0 ⊢
  obtain rfl := (row_len (HS.out.at2)).symm
  unfold ground_Ground_Conf.f at H
  go_enter Tryd.func86, Tryd.ntmps86
  go_wp2_with (first | ((with_reducible refine gate_dst (N := 2) rfl ?_); refine box_on ?hg (N := 2) ?hd (cs := #[.int .i64 0, .int .i64 0, .int .i64 0, .int .i64 0]) (t := 30) ?hr ?_; (case hd => rfl); (case hg => rfl); (case hr => first | (go_simp; done) | (go_simp; rfl)); intro g1411 hg w1412 hbox hb; replace HS : Aside0 (Sep FF w [b13 g1397 g1399 a1407 a1408 a1409 a1410, b12 g1399 A1402 l1401.length n1404 a1406, r4 A1402 l1401.length n1404 l1401, b8 g1411 0 0 0 0] w1412) := ⟨HS.out.box hg hbox hb⟩; clear hg hbox hb; have hc1414 : w1412.cell? ⟨g1397, 1, none⟩ = some (.int .i64 a1407) := blk_cellv (HS.out.at0) 1 rfl; have hc1415 : w1412.cell? ⟨g1397, 2, none⟩ = some (.int .i64 a1408) := blk_cellv (HS.out.at0) 2 rfl; have hc1416 : w1412.cell? ⟨g1397, 3, none⟩ = some (.int .i64 a1409) := blk_cellv (HS.out.at0) 3 rfl; have hc1417 : w1412.cell? ⟨g1397, 4, none⟩ = some (.int .i64 a1410) := blk_cellv (HS.out.at0) 4 rfl; have hc1418 : w1412.cell? ⟨g1411, 0, none⟩ = some (.int .i64 0) := blk_cellv (HS.out.at3) 0 rfl; have hz1419 : w1412.frozen? ⟨g1411, 0, none⟩ = false := blk_fz (HS.out.at3) 0; have hc1420 : w1412.cell? ⟨g1411, 1, none⟩ = some (.int .i64 0) := blk_cellv (HS.out.at3) 1 rfl; have hz1421 : w1412.frozen? ⟨g1411, 1, none⟩ = false := blk_fz (HS.out.at3) 1; have hc1422 : w1412.cell? ⟨g1411, 2, none⟩ = some (.int .i64 0) := blk_cellv (HS.out.at3) 2 rfl; have hz1423 : w1412.frozen? ⟨g1411, 2, none⟩ = false := blk_fz (HS.out.at3) 2; have hc1424 : w1412.cell? ⟨g1411, 3, none⟩ = some (.int .i64 0) := blk_cellv (HS.out.at3) 3 rfl; have hz1425 : w1412.frozen? ⟨g1411, 3, none⟩ = false := blk_fz (HS.out.at3) 3) | ((with_reducible refine gate_store (t := 30) (p := 2) rfl ?_); refine store_event (w1 := (World.setCell (World.setCell (World.setCell (World.setCell w1412 ⟨g1411, 0, none⟩ (.int .i64 a1407)) ⟨g1411, 1, none⟩ (.int .i64 a1408)) ⟨g1411, 2, none⟩ (.int .i64 a1409)) ⟨g1411, 3, none⟩ (.int .i64 a1410))) rfl (t := 30) (p := 2) rfl rfl ?hr ?_; (case hr => first | (go_simp; done) | (go_simp; rfl)); intro w1426 hst; clear hc1414 hc1415 hc1416 hc1417 hc1418 hz1419 hc1420 hz1421 hc1422 hz1423 hc1424 hz1425; replace HS : Aside0 (Sep FF w [b13 g1397 g1399 a1407 a1408 a1409 a1410, b12 g1399 A1402 l1401.length n1404 a1406, r4 A1402 l1401.length n1404 l1401, b8 g1411 a1407 a1408 a1409 a1410] w1426) := ⟨by rw [hst]; exact HS.out.setAll (l1 := [b13 g1397 g1399 a1407 a1408 a1409 a1410, b12 g1399 A1402 l1401.length n1404 a1406, r4 A1402 l1401.length n1404 l1401]) (l2 := []) [.int .i64 a1407, .int .i64 a1408, .int .i64 a1409, .int .i64 a1410] rfl⟩; clear hst))
  have hc1427 : w1426.cell? ⟨g1411, 0, none⟩ = some (.int .i64 a1407) := blk_cellv (HS.out.at3) 0 rfl
  have hc1428 : w1426.cell? ⟨g1411, 1, none⟩ = some (.int .i64 a1408) := blk_cellv (HS.out.at3) 1 rfl
  have hc1429 : w1426.cell? ⟨g1411, 2, none⟩ = some (.int .i64 a1409) := blk_cellv (HS.out.at3) 2 rfl
  have hc1430 : w1426.cell? ⟨g1411, 3, none⟩ = some (.int .i64 a1410) := blk_cellv (HS.out.at3) 3 rfl
  refine bodyPost_ret (v := .agg #[.int .i64 a1407, .int .i64 a1408, .int .i64 a1409, .int .i64 a1410]) (by simp [results, Tryd.results86, go_sem, hc1427, hc1428, hc1429, hc1430]) rfl ?_
  rw [← some_eq H]
  exact ⟨(by first | rfl | (simp [IntKind.wrap_u32]; done)), HS.out.sub (.cons_cons _ (.cons_cons _ (.cons_cons _ (.cons _ .slnil))))⟩

set_option maxHeartbeats 30000000 in
set_option maxRecDepth 100000 in
theorem ground_within.calls (a1447 : Int) (a1448 : Int) (a1449 : Int) (r : Int) (w : World)  (HGl0 : Aside0 (Gl 0 #[.int .i64 0, .int .i64 0, .int .i64 0, .int .i64 0, .int .i64 0] (fps []) w)) (HS : Aside0 (Sep (fps []) w [] w)) (H : Aside0 (ground_within.f a1447 a1448 a1449 = some r)) :
    Calls Tryd.prog 129 #[.int .i64 a1447, .int .i64 a1448, .int .i64 a1449] w fun e w' => e = .returned (.int .i64 r) ∧ Sep (fps []) w [] w' := by
  unfold ground_within.f at H
  go_enter Tryd.func129, Tryd.ntmps129
  by_cases c1450 : a1447 < 0
  · replace H := if_yes c1450 H
    have c1450b0 : decide (a1447 < 0) = true := decide_eq_true c1450
    clear c1450
    go_wp2_with fail
    go_ret
    rw [← some_eq H]
    exact ⟨(by first | rfl | (simp [IntKind.wrap_u32]; done)), HS.out⟩
  · replace H := if_no c1450 H
    have c1450b0 : decide (a1447 < 0) = false := decide_eq_false c1450
    clear c1450
    by_cases c1451 : a1447 ≥ a1448
    · replace H := if_yes c1451 H
      have c1451b0 : decide (a1448 ≤ a1447) = true := decide_eq_true c1451
      clear c1451
      go_wp2_with fail
      go_ret
      rw [← some_eq H]
      exact ⟨(by first | rfl | (simp [IntKind.wrap_u32]; done)), HS.out⟩
    · replace H := if_no c1451 H
      have c1451b0 : decide (a1448 ≤ a1447) = false := decide_eq_false c1451
      clear c1451
      go_wp2_with fail
      go_ret
      rw [← some_eq H]
      exact ⟨(by first | rfl | (simp [IntKind.wrap_u32]; done)), HS.out⟩

set_option maxHeartbeats 30000000 in
set_option maxRecDepth 100000 in
theorem ground_Ground_word.calls (l1384 : List Int) (a1389 : Int) (a1390 : Int) (a1391 : Int) (a1392 : Int) (a1393 : Int) (a1394 : Int) (a1395 : Int) (g1380 : Nat) (g1382 : Nat) (A1385 : Option Addr) (m1386 : Nat) (n1387 : Nat) (r : Int) (w : World)  (HGl0 : Aside0 (Gl 0 #[.int .i64 0, .int .i64 0, .int .i64 0, .int .i64 0, .int .i64 0] (fps [b13 g1380 g1382 a1390 a1391 a1392 a1393, b12 g1382 A1385 m1386 n1387 a1389, r4 A1385 m1386 n1387 l1384]) w)) (HS : Aside0 (Sep (fps [b13 g1380 g1382 a1390 a1391 a1392 a1393, b12 g1382 A1385 m1386 n1387 a1389, r4 A1385 m1386 n1387 l1384]) w [b13 g1380 g1382 a1390 a1391 a1392 a1393, b12 g1382 A1385 m1386 n1387 a1389, r4 A1385 m1386 n1387 l1384] w)) (H : Aside0 (ground_Ground_word.f l1384 a1389 a1390 a1391 a1392 a1393 a1394 a1395 = some r)) :
    Calls Tryd.prog 72 #[.pointer (some ⟨g1380, 0, none⟩), .int .i64 a1394, .int .i64 a1395] w fun e w' => e = .returned (.int .i64 r) ∧ Sep (fps [b13 g1380 g1382 a1390 a1391 a1392 a1393, b12 g1382 A1385 m1386 n1387 a1389, r4 A1385 m1386 n1387 l1384]) w [b13 g1380 g1382 a1390 a1391 a1392 a1393, b12 g1382 A1385 m1386 n1387 a1389, r4 A1385 m1386 n1387 l1384] w' := by
  generalize (fps [b13 g1380 g1382 a1390 a1391 a1392 a1393, b12 g1382 A1385 m1386 n1387 a1389, r4 A1385 m1386 n1387 l1384]) = FF at HS HGl0 ⊢
  obtain rfl := (row_len (HS.out.at2)).symm
  unfold ground_Ground_word.f at H
  go_enter Tryd.func72, Tryd.ntmps72
  go_wp2_with fail
  obtain ⟨t1431, HA1432, H⟩ := bind_some H
  refine (ground_Ground_Conf.calls l1384 a1389 a1390 a1391 a1392 a1393 g1380 g1382 A1385 l1384.length n1387 t1431 _ ⟨HGl0.out.pass HS.out⟩ ⟨HS.out.begin⟩ HA1432).mono ?_
  rintro e_ w1433 ⟨rfl, hS⟩
  replace HS : Aside0 (Sep FF w [b13 g1380 g1382 a1390 a1391 a1392 a1393, b12 g1382 A1385 l1384.length n1387 a1389, r4 A1385 l1384.length n1387 l1384] w1433) := ⟨HS.out.call hS⟩
  clear hS
  go_wp2_with (first | ((with_reducible refine gate_dst (N := 7) rfl ?_); refine box_on ?hg (N := 7) ?hd (cs := #[.int .i64 0, .int .i64 0, .int .i64 0, .int .i64 0]) (t := 30) ?hr ?_; (case hd => rfl); (case hg => rfl); (case hr => first | (go_simp; done) | (go_simp; rfl)); intro g1434 hg w1435 hbox hb; replace HS : Aside0 (Sep FF w [b13 g1380 g1382 a1390 a1391 a1392 a1393, b12 g1382 A1385 l1384.length n1387 a1389, r4 A1385 l1384.length n1387 l1384, b8 g1434 0 0 0 0] w1435) := ⟨HS.out.box hg hbox hb⟩; clear hg hbox hb; have hc1437 : w1435.cell? ⟨g1434, 0, none⟩ = some (.int .i64 0) := blk_cellv (HS.out.at3) 0 rfl; have hz1438 : w1435.frozen? ⟨g1434, 0, none⟩ = false := blk_fz (HS.out.at3) 0; have hc1439 : w1435.cell? ⟨g1434, 1, none⟩ = some (.int .i64 0) := blk_cellv (HS.out.at3) 1 rfl; have hz1440 : w1435.frozen? ⟨g1434, 1, none⟩ = false := blk_fz (HS.out.at3) 1; have hc1441 : w1435.cell? ⟨g1434, 2, none⟩ = some (.int .i64 0) := blk_cellv (HS.out.at3) 2 rfl; have hz1442 : w1435.frozen? ⟨g1434, 2, none⟩ = false := blk_fz (HS.out.at3) 2; have hc1443 : w1435.cell? ⟨g1434, 3, none⟩ = some (.int .i64 0) := blk_cellv (HS.out.at3) 3 rfl; have hz1444 : w1435.frozen? ⟨g1434, 3, none⟩ = false := blk_fz (HS.out.at3) 3) | ((with_reducible refine gate_store (t := 30) (p := 7) rfl ?_); refine store_event (w1 := (World.setCell (World.setCell (World.setCell (World.setCell w1435 ⟨g1434, 0, none⟩ (.int .i64 t1431.1)) ⟨g1434, 1, none⟩ (.int .i64 t1431.2.1)) ⟨g1434, 2, none⟩ (.int .i64 t1431.2.2.1)) ⟨g1434, 3, none⟩ (.int .i64 t1431.2.2.2))) rfl (t := 30) (p := 7) rfl rfl ?hr ?_; (case hr => first | (go_simp; done) | (go_simp; rfl)); intro w1445 hst; clear hc1437 hz1438 hc1439 hz1440 hc1441 hz1442 hc1443 hz1444; replace HS : Aside0 (Sep FF w [b13 g1380 g1382 a1390 a1391 a1392 a1393, b12 g1382 A1385 l1384.length n1387 a1389, r4 A1385 l1384.length n1387 l1384, b8 g1434 t1431.1 t1431.2.1 t1431.2.2.1 t1431.2.2.2] w1445) := ⟨by rw [hst]; exact HS.out.setAll (l1 := [b13 g1380 g1382 a1390 a1391 a1392 a1393, b12 g1382 A1385 l1384.length n1387 a1389, r4 A1385 l1384.length n1387 l1384]) (l2 := []) [.int .i64 t1431.1, .int .i64 t1431.2.1, .int .i64 t1431.2.2.1, .int .i64 t1431.2.2.2] rfl⟩; clear hst; have hc1446 : w1445.cell? ⟨g1434, 0, none⟩ = some (.int .i64 t1431.1) := blk_cellv (HS.out.at3) 0 rfl))
  clear hc1446
  obtain ⟨t1452, HA1453, H⟩ := bind_some H
  refine (ground_within.calls a1394 t1431.1 0 t1452 _ ⟨HGl0.out.pass (l := []) HS.out⟩ ⟨Sep.start _⟩ HA1453).mono ?_
  rintro e_ w1454 ⟨rfl, hS⟩
  replace HS : Aside0 (Sep FF w [b13 g1380 g1382 a1390 a1391 a1392 a1393, b12 g1382 A1385 l1384.length n1387 a1389, r4 A1385 l1384.length n1387 l1384, b8 g1434 t1431.1 t1431.2.1 t1431.2.2.1 t1431.2.2.2] w1454) := ⟨HS.out.call hS⟩
  clear hS
  by_cases c1455 : t1452 = (-1)
  · replace H := if_yes c1455 H
    have c1455b0 : (t1452 == (-1)) = true := beq_iff_eq.mpr c1455
    have c1455b1 : (t1452 != (-1)) = false := bne_eq_false_iff_eq.mpr c1455
    clear c1455
    replace HS : Aside0 (Sep FF w [b13 g1380 g1382 a1390 a1391 a1392 a1393, b12 g1382 A1385 l1384.length n1387 a1389, r4 A1385 l1384.length n1387 l1384] w1454) := ⟨HS.out.sub (.cons_cons _ (.cons_cons _ (.cons_cons _ (.cons _ .slnil))))⟩
    go_wp2_with fail
    go_ret
    rw [← some_eq H]
    exact ⟨(by first | rfl | (simp [IntKind.wrap_u32]; done)), HS.out⟩
  · replace H := if_no c1455 H
    have c1455b0 : (t1452 == (-1)) = false := beq_eq_false_iff_ne.mpr c1455
    have c1455b1 : (t1452 != (-1)) = true := bne_iff_ne.mpr c1455
    clear c1455
    have hc1456 : w1454.cell? ⟨g1434, 1, none⟩ = some (.int .i64 t1431.2.1) := blk_cellv (HS.out.at3) 1 rfl
    have hc1457 : w1454.cell? ⟨g1434, 2, none⟩ = some (.int .i64 t1431.2.2.1) := blk_cellv (HS.out.at3) 2 rfl
    go_wp2_with fail
    clear hc1456 hc1457
    obtain ⟨t1458, HA1459, H⟩ := bind_some H
    refine (ground_within.calls a1395 t1431.2.1 (wrap64 ((wrap64 (24 + t1431.2.2.1)) + (wrap64 (a1394 * t1431.2.1)))) t1458 _ ⟨HGl0.out.pass (l := []) HS.out⟩ ⟨Sep.start _⟩ HA1459).mono ?_
    rintro e_ w1460 ⟨rfl, hS⟩
    replace HS : Aside0 (Sep FF w [b13 g1380 g1382 a1390 a1391 a1392 a1393, b12 g1382 A1385 l1384.length n1387 a1389, r4 A1385 l1384.length n1387 l1384, b8 g1434 t1431.1 t1431.2.1 t1431.2.2.1 t1431.2.2.2] w1460) := ⟨HS.out.call hS⟩
    clear hS
    replace HS : Aside0 (Sep FF w [b13 g1380 g1382 a1390 a1391 a1392 a1393, b12 g1382 A1385 l1384.length n1387 a1389, r4 A1385 l1384.length n1387 l1384] w1460) := ⟨HS.out.sub (.cons_cons _ (.cons_cons _ (.cons_cons _ (.cons _ .slnil))))⟩
    go_wp2_with fail
    go_ret
    rw [← some_eq H]
    exact ⟨(by first | rfl | (simp [IntKind.wrap_u32]; done)), HS.out⟩

set_option maxHeartbeats 30000000 in
set_option maxRecDepth 100000 in
theorem store_Store_has.calls (l1478 : List Int) (a1483 : Int) (a1484 : Int) (g1476 : Nat) (A1479 : Option Addr) (m1480 : Nat) (n1481 : Nat) (r : Bool) (w : World)  (HGl0 : Aside0 (Gl 0 #[.int .i64 0, .int .i64 0, .int .i64 0, .int .i64 0, .int .i64 0] (fps [b12 g1476 A1479 m1480 n1481 a1483, r4 A1479 m1480 n1481 l1478]) w)) (HS : Aside0 (Sep (fps [b12 g1476 A1479 m1480 n1481 a1483, r4 A1479 m1480 n1481 l1478]) w [b12 g1476 A1479 m1480 n1481 a1483, r4 A1479 m1480 n1481 l1478] w)) (H : Aside0 (store_Store_has.f l1478 a1483 a1484 = some r)) :
    Calls Tryd.prog 127 #[.pointer (some ⟨g1476, 0, none⟩), .int .i64 a1484] w fun e w' => e = .returned (.bool r) ∧ Sep (fps [b12 g1476 A1479 m1480 n1481 a1483, r4 A1479 m1480 n1481 l1478]) w [b12 g1476 A1479 m1480 n1481 a1483, r4 A1479 m1480 n1481 l1478] w' := by
  generalize (fps [b12 g1476 A1479 m1480 n1481 a1483, r4 A1479 m1480 n1481 l1478]) = FF at HS HGl0 ⊢
  obtain rfl := (row_len (HS.out.at1)).symm
  unfold store_Store_has.f at H
  go_enter Tryd.func127, Tryd.ntmps127
  by_cases c1485 : a1484 ≥ 0
  · replace H := if_yes c1485 H
    have c1485b0 : decide (0 ≤ a1484) = true := decide_eq_true c1485
    clear c1485
    have hc1486 : w.cell? ⟨g1476, 0, none⟩ = some (.slice A1479 l1478.length n1481) := blk_cellv (HS.out.at0) 0 rfl
    go_wp2_with fail
    clear hc1486
    go_ret
    rw [← some_eq H]
    exact ⟨(by first | rfl | (simp [IntKind.wrap_u32]; done)), HS.out⟩
  · replace H := if_no c1485 H
    have c1485b0 : decide (0 ≤ a1484) = false := decide_eq_false c1485
    clear c1485
    go_wp2_with fail
    go_ret
    rw [← some_eq H]
    exact ⟨(by first | rfl | (simp [IntKind.wrap_u32]; done)), HS.out⟩

set_option maxHeartbeats 30000000 in
set_option maxRecDepth 100000 in
theorem atomic_Uint64_Add.calls (l1494 : List Int) (a1499 : Int) (a1500 : Int) (g1492 : Nat) (A1495 : Option Addr) (m1496 : Nat) (n1497 : Nat) (r : Int × Int) (w : World)  (HGl0 : Aside0 (Gl 0 #[.int .i64 0, .int .i64 0, .int .i64 0, .int .i64 0, .int .i64 0] (fps [b12 g1492 A1495 m1496 n1497 a1499, r4 A1495 m1496 n1497 l1494]) w)) (HS : Aside0 (Sep (fps [b12 g1492 A1495 m1496 n1497 a1499, r4 A1495 m1496 n1497 l1494]) w [b12 g1492 A1495 m1496 n1497 a1499, r4 A1495 m1496 n1497 l1494] w)) (H : Aside0 (atomic_Uint64_Add.f l1494 a1499 a1500 = some r)) :
    Calls Tryd.prog 128 #[.pointer (some ⟨g1492, 1, none⟩), .int .u64 a1500] w fun e w' => e = .returned (.int .u64 r.1) ∧ Sep (fps [b12 g1492 A1495 m1496 n1497 a1499, r4 A1495 m1496 n1497 l1494]) w [b12 g1492 A1495 m1496 n1497 r.2, r4 A1495 m1496 n1497 l1494] w' := by
  generalize (fps [b12 g1492 A1495 m1496 n1497 a1499, r4 A1495 m1496 n1497 l1494]) = FF at HS HGl0 ⊢
  obtain rfl := (row_len (HS.out.at1)).symm
  unfold atomic_Uint64_Add.f at H
  go_enter Tryd.func128, Tryd.ntmps128
  obtain ⟨y1510, HA1511, H⟩ := bind_some H
  have hc1507 : w.cell? ⟨g1492, 1, none⟩ = some (.int .u64 a1499) := blk_cellv (HS.out.at0) 1 rfl
  have hz1509 : w.frozen? ⟨g1492, 1, none⟩ = false := blk_fz (HS.out.at0) 1
  have hn1508 : (callFunc 153 #[.pointer (some ⟨g1492, 1, none⟩), .int .u64 a1500]).run Tryd.prog w = .ok (.value (.int .u64 y1510)) ((World.setCell w ⟨g1492, 1, none⟩ (.int .u64 y1510))) := (some_eq HA1511) ▸ run_call_add Tryd.func153 (by kernel_rfl) (by kernel_rfl) (by kernel_rfl) .u64 (by kernel_rfl) hc1507 hz1509 (by rfl)
  go_wp2_with (first | ((with_reducible refine gate_dst (N := 9) rfl ?_); refine run_on2 (by rfl) (w1 := (World.setCell w ⟨g1492, 1, none⟩ (.int .u64 y1510))) (v := .int .u64 y1510) ?hr ?_; (case hr => first | (go_simp; done) | (go_simp; rfl)); intro w1512 hst; clear hc1507 hz1509; have hq0 : Sep FF w [b12 g1492 A1495 l1494.length n1497 y1510, r4 A1495 l1494.length n1497 l1494] (World.setCell w ⟨g1492, 1, none⟩ (.int .u64 y1510)) := (HS.out).set1 (l1 := []) (l2 := [r4 A1495 l1494.length n1497 l1494]) 1 (.int .u64 y1510); replace HS : Aside0 (Sep FF w [b12 g1492 A1495 l1494.length n1497 y1510, r4 A1495 l1494.length n1497 l1494] w1512) := ⟨by rw [hst]; exact hq0⟩; clear hst hn1508 hq0))
  go_ret
  rw [← some_eq H]
  exact ⟨(by first | rfl | (simp [IntKind.wrap_u32]; done)), HS.out⟩

set_option maxHeartbeats 30000000 in
set_option maxRecDepth 100000 in
theorem store_Store_Put.calls (l1467 : List Int) (a1472 : Int) (a1473 : Int) (a1474 : Int) (g1465 : Nat) (A1468 : Option Addr) (m1469 : Nat) (n1470 : Nat) (r : Bool × Int × List Int) (w : World)  (HGl0 : Aside0 (Gl 0 #[.int .i64 0, .int .i64 0, .int .i64 0, .int .i64 0, .int .i64 0] (fps [b12 g1465 A1468 m1469 n1470 a1472, r4 A1468 m1469 n1470 l1467]) w)) (HS : Aside0 (Sep (fps [b12 g1465 A1468 m1469 n1470 a1472, r4 A1468 m1469 n1470 l1467]) w [b12 g1465 A1468 m1469 n1470 a1472, r4 A1468 m1469 n1470 l1467] w)) (H : Aside0 (store_Store_Put.f l1467 a1472 a1473 a1474 = some r)) :
    Calls Tryd.prog 71 #[.pointer (some ⟨g1465, 0, none⟩), .int .i64 a1473, .int .u32 a1474] w fun e w' => e = .returned (.bool r.1) ∧ Sep (fps [b12 g1465 A1468 m1469 n1470 a1472, r4 A1468 m1469 n1470 l1467]) w [b12 g1465 A1468 m1469 n1470 r.2.1, r4 A1468 m1469 n1470 r.2.2] w' := by
  generalize (fps [b12 g1465 A1468 m1469 n1470 a1472, r4 A1468 m1469 n1470 l1467]) = FF at HS HGl0 ⊢
  obtain rfl := (row_len (HS.out.at1)).symm
  unfold store_Store_Put.f at H
  go_enter Tryd.func71, Tryd.ntmps71
  go_wp2_with fail
  obtain ⟨t1525, HA1526, H⟩ := bind_some H
  refine (store_Store_has.calls l1467 a1472 a1473 g1465 A1468 l1467.length n1470 t1525 _ ⟨HGl0.out.pass HS.out⟩ ⟨HS.out.begin⟩ HA1526).mono ?_
  rintro e_ w1527 ⟨rfl, hS⟩
  replace HS : Aside0 (Sep FF w [b12 g1465 A1468 l1467.length n1470 a1472, r4 A1468 l1467.length n1470 l1467] w1527) := ⟨HS.out.call hS⟩
  clear hS
  by_cases c1528 : t1525 = true
  · replace H := if_yes c1528 H
    have c1528b0 : t1525 = true := c1528
    have c1528b1 : (!t1525) = false := by rw [c1528b0]; rfl
    try rw [c1528b1]
    clear c1528
    go_wp2_with fail
    obtain ⟨t1529, HA1530, H⟩ := bind_some H
    refine (atomic_Uint64_Add.calls l1467 a1472 1 g1465 A1468 l1467.length n1470 t1529 _ ⟨HGl0.out.pass HS.out⟩ ⟨HS.out.begin⟩ HA1530).mono ?_
    rintro e_ w1531 ⟨rfl, hS⟩
    replace HS : Aside0 (Sep FF w [b12 g1465 A1468 l1467.length n1470 t1529.2, r4 A1468 l1467.length n1470 l1467] w1531) := ⟨HS.out.call hS⟩
    clear hS
    by_cases c1533 : 0 ≤ a1473
    · replace H := if_yes c1533 H
      have c1533b0 : decide (0 ≤ a1473) = true := decide_eq_true c1533
      have c1533p : (0 ≤ a1473) = True := eq_true c1533
      clear c1533
      by_cases c1534 : a1473 < (l1467.length : Int)
      · replace H := if_yes c1534 H
        have c1534b0 : decide (a1473 < (l1467.length : Int)) = true := decide_eq_true c1534
        have c1534p : (a1473 < (l1467.length : Int)) = True := eq_true c1534
        clear c1534
        obtain ⟨y1537, HA1538, H⟩ := bind_some H
        have hc1532 : w1531.cell? ⟨g1465, 0, none⟩ = some (.slice A1468 l1467.length n1470) := blk_cellv (HS.out.at0) 0 rfl
        obtain ⟨g1535, ea⟩ := row_at (HS.out.at1) (by have := (of_decide_eq_true c1533b0); have := (of_decide_eq_true c1534b0); omega); cases ea
        have hx1539 := (row_get 0 (HS.out.at1) a1473 (of_decide_eq_true c1533b0) (of_decide_eq_true c1534b0)).1
        have hz1540 := (row_get 0 (HS.out.at1) a1473 (of_decide_eq_true c1533b0) (of_decide_eq_true c1534b0)).2
        go_wp2_with (first | ((with_reducible refine gate_store (t := 33) (p := 21) rfl ?_); refine store_event (w1 := World.setCell w1531 ⟨g1535, (a1473).toNat, none⟩ (.int .u32 a1474)) rfl (t := 33) (p := 21) rfl rfl ?hr ?_; (case hr => first | (go_simp; done) | (go_simp; rfl)); intro w1536 hst; clear hc1532 hx1539 hz1540; have hq := Sep.rowset (l1 := [b12 g1465 (some ⟨g1535, 0, none⟩) l1467.length n1470 t1529.2]) (l2 := []) HS.out a1473 a1474; rw [← hst, some_eq HA1538] at hq; replace HS : Aside0 (Sep FF w [b12 g1465 (some ⟨g1535, 0, none⟩) l1467.length n1470 t1529.2, r4 (some ⟨g1535, 0, none⟩) l1467.length n1470 y1537] w1536) := ⟨hq⟩; clear hst hq))
        go_ret
        rw [← some_eq H]
        exact ⟨(by first | rfl | (simp [IntKind.wrap_u32]; done)), HS.out⟩
      · replace H := if_no c1534 H
        have c1534b0 : decide (a1473 < (l1467.length : Int)) = false := decide_eq_false c1534
        clear c1534
        exact (none_no H).elim
    · replace H := if_no c1533 H
      have c1533b0 : decide (0 ≤ a1473) = false := decide_eq_false c1533
      clear c1533
      exact (none_no H).elim
  · replace H := if_no c1528 H
    have c1528b0 : t1525 = false := by simpa using c1528
    have c1528b1 : (!t1525) = true := by rw [c1528b0]; rfl
    try rw [c1528b1]
    clear c1528
    go_wp2_with fail
    go_ret
    rw [← some_eq H]
    exact ⟨(by first | rfl | (simp [IntKind.wrap_u32]; done)), HS.out⟩

set_option maxHeartbeats 30000000 in
set_option maxRecDepth 100000 in
theorem ground_Ground_SetWord.calls (l1347 : List Int) (a1352 : Int) (a1353 : Int) (a1354 : Int) (a1355 : Int) (a1356 : Int) (a1357 : Int) (a1358 : Int) (a1359 : Int) (g1343 : Nat) (g1345 : Nat) (A1348 : Option Addr) (m1349 : Nat) (n1350 : Nat) (r : Bool × Int × List Int) (w : World)  (HGl0 : Aside0 (Gl 0 #[.int .i64 0, .int .i64 0, .int .i64 0, .int .i64 0, .int .i64 0] (fps [b13 g1343 g1345 a1353 a1354 a1355 a1356, b12 g1345 A1348 m1349 n1350 a1352, r4 A1348 m1349 n1350 l1347]) w)) (HS : Aside0 (Sep (fps [b13 g1343 g1345 a1353 a1354 a1355 a1356, b12 g1345 A1348 m1349 n1350 a1352, r4 A1348 m1349 n1350 l1347]) w [b13 g1343 g1345 a1353 a1354 a1355 a1356, b12 g1345 A1348 m1349 n1350 a1352, r4 A1348 m1349 n1350 l1347] w)) (H : Aside0 (ground_Ground_SetWord.f l1347 a1352 a1353 a1354 a1355 a1356 a1357 a1358 a1359 = some r)) :
    Calls Tryd.prog 17 #[.pointer (some ⟨g1343, 0, none⟩), .int .i64 a1357, .int .i64 a1358, .int .u32 a1359] w fun e w' => e = .returned (.bool r.1) ∧ Sep (fps [b13 g1343 g1345 a1353 a1354 a1355 a1356, b12 g1345 A1348 m1349 n1350 a1352, r4 A1348 m1349 n1350 l1347]) w [b13 g1343 g1345 a1353 a1354 a1355 a1356, b12 g1345 A1348 m1349 n1350 r.2.1, r4 A1348 m1349 n1350 r.2.2] w' := by
  generalize (fps [b13 g1343 g1345 a1353 a1354 a1355 a1356, b12 g1345 A1348 m1349 n1350 a1352, r4 A1348 m1349 n1350 l1347]) = FF at HS HGl0 ⊢
  obtain rfl := (row_len (HS.out.at2)).symm
  unfold ground_Ground_SetWord.f at H
  go_enter Tryd.func17, Tryd.ntmps17
  go_wp2_with fail
  obtain ⟨t1544, HA1545, H⟩ := bind_some H
  refine (ground_Ground_all.calls l1347 a1352 a1353 a1354 a1355 a1356 g1343 g1345 A1348 l1347.length n1350 t1544 _ ⟨HGl0.out.pass HS.out⟩ ⟨HS.out.begin⟩ HA1545).mono ?_
  rintro e_ w1546 ⟨rfl, hS⟩
  replace HS : Aside0 (Sep FF w [b13 g1343 g1345 a1353 a1354 a1355 a1356, b12 g1345 A1348 l1347.length n1350 a1352, r4 A1348 l1347.length n1350 l1347] w1546) := ⟨HS.out.call hS⟩
  clear hS
  go_wp2_with fail
  obtain ⟨t1547, HA1548, H⟩ := bind_some H
  refine (ground_Ground_word.calls l1347 a1352 a1353 a1354 a1355 a1356 a1357 a1358 g1343 g1345 A1348 l1347.length n1350 t1547 _ ⟨HGl0.out.pass HS.out⟩ ⟨HS.out.begin⟩ HA1548).mono ?_
  rintro e_ w1549 ⟨rfl, hS⟩
  replace HS : Aside0 (Sep FF w [b13 g1343 g1345 a1353 a1354 a1355 a1356, b12 g1345 A1348 l1347.length n1350 a1352, r4 A1348 l1347.length n1350 l1347] w1549) := ⟨HS.out.call hS⟩
  clear hS
  go_wp2_with fail
  replace HS : Aside0 (Sep FF w [r4 A1348 l1347.length n1350 l1347, b13 g1343 g1345 a1353 a1354 a1355 a1356, b12 g1345 A1348 l1347.length n1350 a1352] w1549) := ⟨HS.out.front 2 (by simp)⟩
  replace HS : Aside0 (Sep FF w [b12 g1345 A1348 l1347.length n1350 a1352, r4 A1348 l1347.length n1350 l1347, b13 g1343 g1345 a1353 a1354 a1355 a1356] w1549) := ⟨HS.out.front 2 (by simp)⟩
  obtain ⟨t1550, HA1551, H⟩ := bind_some H
  refine (store_Store_Put.calls l1347 a1352 t1547 a1359 g1345 A1348 l1347.length n1350 t1550 _ ⟨HGl0.out.pass HS.out⟩ ⟨HS.out.begin⟩ HA1551).mono ?_
  rintro e_ w1552 ⟨rfl, hS⟩
  replace HS : Aside0 (Sep FF w [b12 g1345 A1348 l1347.length n1350 t1550.2.1, r4 A1348 l1347.length n1350 t1550.2.2, b13 g1343 g1345 a1353 a1354 a1355 a1356] w1552) := ⟨HS.out.call hS⟩
  clear hS
  go_wp2_with fail
  go_ret
  rw [← some_eq H]
  exact ⟨(by first | rfl | (simp [IntKind.wrap_u32]; done)), ((((HS.out).front 1 (by simp)).front 1 (by simp)).front 2 (by simp)).keep (l := [b13 g1343 g1345 a1353 a1354 a1355 a1356, b12 g1345 A1348 l1347.length n1350 t1550.2.1, r4 A1348 l1347.length n1350 t1550.2.2]) (rest := [])⟩

set_option maxHeartbeats 30000000 in
set_option maxRecDepth 100000 in
theorem store_Store_Peek.calls (l1801 : List Int) (a1806 : Int) (a1807 : Int) (g1799 : Nat) (A1802 : Option Addr) (m1803 : Nat) (n1804 : Nat) (r : Int) (w : World)  (HGl0 : Aside0 (Gl 0 #[.int .i64 0, .int .i64 0, .int .i64 0, .int .i64 0, .int .i64 0] (fps [b12 g1799 A1802 m1803 n1804 a1806, r4 A1802 m1803 n1804 l1801]) w)) (HS : Aside0 (Sep (fps [b12 g1799 A1802 m1803 n1804 a1806, r4 A1802 m1803 n1804 l1801]) w [b12 g1799 A1802 m1803 n1804 a1806, r4 A1802 m1803 n1804 l1801] w)) (H : Aside0 (store_Store_Peek.f l1801 a1806 a1807 = some r)) :
    Calls Tryd.prog 73 #[.pointer (some ⟨g1799, 0, none⟩), .int .i64 a1807] w fun e w' => e = .returned (.int .u32 r) ∧ Sep (fps [b12 g1799 A1802 m1803 n1804 a1806, r4 A1802 m1803 n1804 l1801]) w [b12 g1799 A1802 m1803 n1804 a1806, r4 A1802 m1803 n1804 l1801] w' := by
  generalize (fps [b12 g1799 A1802 m1803 n1804 a1806, r4 A1802 m1803 n1804 l1801]) = FF at HS HGl0 ⊢
  obtain rfl := (row_len (HS.out.at1)).symm
  unfold store_Store_Peek.f at H
  go_enter Tryd.func73, Tryd.ntmps73
  go_wp2_with fail
  obtain ⟨t1808, HA1809, H⟩ := bind_some H
  refine (store_Store_has.calls l1801 a1806 a1807 g1799 A1802 l1801.length n1804 t1808 _ ⟨HGl0.out.pass HS.out⟩ ⟨HS.out.begin⟩ HA1809).mono ?_
  rintro e_ w1810 ⟨rfl, hS⟩
  replace HS : Aside0 (Sep FF w [b12 g1799 A1802 l1801.length n1804 a1806, r4 A1802 l1801.length n1804 l1801] w1810) := ⟨HS.out.call hS⟩
  clear hS
  by_cases c1811 : t1808 = true
  · replace H := if_yes c1811 H
    have c1811b0 : t1808 = true := c1811
    have c1811b1 : (!t1808) = false := by rw [c1811b0]; rfl
    try rw [c1811b1]
    clear c1811
    by_cases c1813 : 0 ≤ a1807
    · replace H := if_yes c1813 H
      have c1813b0 : decide (0 ≤ a1807) = true := decide_eq_true c1813
      have c1813p : (0 ≤ a1807) = True := eq_true c1813
      clear c1813
      by_cases c1814 : a1807 < (l1801.length : Int)
      · replace H := if_yes c1814 H
        have c1814b0 : decide (a1807 < (l1801.length : Int)) = true := decide_eq_true c1814
        have c1814p : (a1807 < (l1801.length : Int)) = True := eq_true c1814
        clear c1814
        have hc1812 : w1810.cell? ⟨g1799, 0, none⟩ = some (.slice A1802 l1801.length n1804) := blk_cellv (HS.out.at0) 0 rfl
        obtain ⟨g1815, ea⟩ := row_at (HS.out.at1) (by have := (of_decide_eq_true c1813b0); have := (of_decide_eq_true c1814b0); omega); cases ea
        have hx1816 := C_at_int (row_Ci (HS.out.at1)) a1807 (of_decide_eq_true c1813b0) (of_decide_eq_true c1814b0)
        have hx1817 : w1810.cell? ⟨g1815, (a1807).toNat, none⟩ = some (.int .u32 (rd l1801 a1807)) := (row_get 0 (HS.out.at1) a1807 (of_decide_eq_true c1813b0) (of_decide_eq_true c1814b0)).1
        go_wp2_with fail
        clear hc1812 hx1816 hx1817
        go_ret
        rw [← some_eq H]
        exact ⟨(by first | rfl | (simp [IntKind.wrap_u32]; done)), HS.out⟩
      · replace H := if_no c1814 H
        have c1814b0 : decide (a1807 < (l1801.length : Int)) = false := decide_eq_false c1814
        clear c1814
        exact (none_no H).elim
    · replace H := if_no c1813 H
      have c1813b0 : decide (0 ≤ a1807) = false := decide_eq_false c1813
      clear c1813
      exact (none_no H).elim
  · replace H := if_no c1811 H
    have c1811b0 : t1808 = false := by simpa using c1811
    have c1811b1 : (!t1808) = true := by rw [c1811b0]; rfl
    try rw [c1811b1]
    clear c1811
    go_wp2_with fail
    go_ret
    rw [← some_eq H]
    exact ⟨(by first | rfl | (simp [IntKind.wrap_u32]; done)), HS.out⟩

set_option maxHeartbeats 30000000 in
set_option maxRecDepth 100000 in
theorem ground_Ground_SeeWord.calls (l1780 : List Int) (a1785 : Int) (a1786 : Int) (a1787 : Int) (a1788 : Int) (a1789 : Int) (a1790 : Int) (a1791 : Int) (g1776 : Nat) (g1778 : Nat) (A1781 : Option Addr) (m1782 : Nat) (n1783 : Nat) (r : Int) (w : World)  (HGl0 : Aside0 (Gl 0 #[.int .i64 0, .int .i64 0, .int .i64 0, .int .i64 0, .int .i64 0] (fps [b13 g1776 g1778 a1786 a1787 a1788 a1789, b12 g1778 A1781 m1782 n1783 a1785, r4 A1781 m1782 n1783 l1780]) w)) (HS : Aside0 (Sep (fps [b13 g1776 g1778 a1786 a1787 a1788 a1789, b12 g1778 A1781 m1782 n1783 a1785, r4 A1781 m1782 n1783 l1780]) w [b13 g1776 g1778 a1786 a1787 a1788 a1789, b12 g1778 A1781 m1782 n1783 a1785, r4 A1781 m1782 n1783 l1780] w)) (H : Aside0 (ground_Ground_SeeWord.f l1780 a1785 a1786 a1787 a1788 a1789 a1790 a1791 = some r)) :
    Calls Tryd.prog 18 #[.pointer (some ⟨g1776, 0, none⟩), .int .i64 a1790, .int .i64 a1791] w fun e w' => e = .returned (.int .u32 r) ∧ Sep (fps [b13 g1776 g1778 a1786 a1787 a1788 a1789, b12 g1778 A1781 m1782 n1783 a1785, r4 A1781 m1782 n1783 l1780]) w [b13 g1776 g1778 a1786 a1787 a1788 a1789, b12 g1778 A1781 m1782 n1783 a1785, r4 A1781 m1782 n1783 l1780] w' := by
  generalize (fps [b13 g1776 g1778 a1786 a1787 a1788 a1789, b12 g1778 A1781 m1782 n1783 a1785, r4 A1781 m1782 n1783 l1780]) = FF at HS HGl0 ⊢
  obtain rfl := (row_len (HS.out.at2)).symm
  unfold ground_Ground_SeeWord.f at H
  go_enter Tryd.func18, Tryd.ntmps18
  go_wp2_with fail
  obtain ⟨t1792, HA1793, H⟩ := bind_some H
  refine (ground_Ground_all.calls l1780 a1785 a1786 a1787 a1788 a1789 g1776 g1778 A1781 l1780.length n1783 t1792 _ ⟨HGl0.out.pass HS.out⟩ ⟨HS.out.begin⟩ HA1793).mono ?_
  rintro e_ w1794 ⟨rfl, hS⟩
  replace HS : Aside0 (Sep FF w [b13 g1776 g1778 a1786 a1787 a1788 a1789, b12 g1778 A1781 l1780.length n1783 a1785, r4 A1781 l1780.length n1783 l1780] w1794) := ⟨HS.out.call hS⟩
  clear hS
  go_wp2_with fail
  obtain ⟨t1795, HA1796, H⟩ := bind_some H
  refine (ground_Ground_word.calls l1780 a1785 a1786 a1787 a1788 a1789 a1790 a1791 g1776 g1778 A1781 l1780.length n1783 t1795 _ ⟨HGl0.out.pass HS.out⟩ ⟨HS.out.begin⟩ HA1796).mono ?_
  rintro e_ w1797 ⟨rfl, hS⟩
  replace HS : Aside0 (Sep FF w [b13 g1776 g1778 a1786 a1787 a1788 a1789, b12 g1778 A1781 l1780.length n1783 a1785, r4 A1781 l1780.length n1783 l1780] w1797) := ⟨HS.out.call hS⟩
  clear hS
  go_wp2_with fail
  replace HS : Aside0 (Sep FF w [r4 A1781 l1780.length n1783 l1780, b13 g1776 g1778 a1786 a1787 a1788 a1789, b12 g1778 A1781 l1780.length n1783 a1785] w1797) := ⟨HS.out.front 2 (by simp)⟩
  replace HS : Aside0 (Sep FF w [b12 g1778 A1781 l1780.length n1783 a1785, r4 A1781 l1780.length n1783 l1780, b13 g1776 g1778 a1786 a1787 a1788 a1789] w1797) := ⟨HS.out.front 2 (by simp)⟩
  obtain ⟨t1818, HA1819, H⟩ := bind_some H
  refine (store_Store_Peek.calls l1780 a1785 t1795 g1778 A1781 l1780.length n1783 t1818 _ ⟨HGl0.out.pass HS.out⟩ ⟨HS.out.begin⟩ HA1819).mono ?_
  rintro e_ w1820 ⟨rfl, hS⟩
  replace HS : Aside0 (Sep FF w [b12 g1778 A1781 l1780.length n1783 a1785, r4 A1781 l1780.length n1783 l1780, b13 g1776 g1778 a1786 a1787 a1788 a1789] w1820) := ⟨HS.out.call hS⟩
  clear hS
  go_wp2_with fail
  go_ret
  rw [← some_eq H]
  exact ⟨(by first | rfl | (simp [IntKind.wrap_u32]; done)), ((((HS.out).front 1 (by simp)).front 1 (by simp)).front 2 (by simp)).keep (l := [b13 g1776 g1778 a1786 a1787 a1788 a1789, b12 g1778 A1781 l1780.length n1783 a1785, r4 A1781 l1780.length n1783 l1780]) (rest := [])⟩

set_option maxHeartbeats 30000000 in
set_option maxRecDepth 100000 in
theorem tag_Unpack_1.calls (a1833 : Int) (a1834 : Int) (a1837 : Int) (g1836 : Nat) (r : Int) (w : World)  (HGl0 : Aside0 (Gl 0 #[.int .i64 0, .int .i64 0, .int .i64 0, .int .i64 0, .int .i64 0] (fps [b3 g1836 a1837]) w)) (HS : Aside0 (Sep (fps [b3 g1836 a1837]) w [b3 g1836 a1837] w)) (H : Aside0 (tag_Unpack_1.f a1833 a1834 a1837 = some r)) :
    Calls Tryd.prog 74 #[.int .i64 a1833, .int .i64 a1834, .pointer (some ⟨g1836, 0, none⟩)] w fun e w' => e = .returned (.int .i64 r) ∧ Sep (fps [b3 g1836 a1837]) w [b3 g1836 a1837] w' := by
  generalize (fps [b3 g1836 a1837]) = FF at HS HGl0 ⊢
  unfold tag_Unpack_1.f at H
  go_enter Tryd.func74, Tryd.ntmps74
  have hc1838 : w.cell? ⟨g1836, 0, none⟩ = some (.int .u32 a1837) := blk_cellv (HS.out.at0) 0 rfl
  go_wp2_with fail
  clear hc1838
  obtain ⟨t1839, HA1840, H⟩ := bind_some H
  refine (pack_Get.calls a1837 a1833 a1834 t1839 _ ⟨HGl0.out.pass (l := []) HS.out⟩ ⟨Sep.start _⟩ HA1840).mono ?_
  rintro e_ w1841 ⟨rfl, hS⟩
  replace HS : Aside0 (Sep FF w [b3 g1836 a1837] w1841) := ⟨HS.out.call hS⟩
  clear hS
  go_wp2_with fail
  go_ret
  rw [← some_eq H]
  exact ⟨(by first | rfl | (simp [IntKind.wrap_u32]; done)), HS.out⟩

set_option maxHeartbeats 30000000 in
set_option maxRecDepth 100000 in
theorem tag_Unpack.calls (a1826 : Int) (r : Int × Int × Int × Int × Int × Int × Int) (w : World)  (HGl0 : Aside0 (Gl 0 #[.int .i64 0, .int .i64 0, .int .i64 0, .int .i64 0, .int .i64 0] (fps []) w)) (HS : Aside0 (Sep (fps []) w [] w)) (H : Aside0 (tag_Unpack.f a1826 = some r)) :
    Calls Tryd.prog 19 #[.int .u32 a1826] w fun e w' => e = .returned (.agg #[.int .i64 r.1, .int .i64 r.2.1, .int .i64 r.2.2.1, .int .i64 r.2.2.2.1, .int .i64 r.2.2.2.2.1, .int .i64 r.2.2.2.2.2.1, .int .i64 r.2.2.2.2.2.2]) ∧ Sep (fps []) w [] w' := by
  unfold tag_Unpack.f at H
  go_enter Tryd.func19, Tryd.ntmps19
  go_wp2_with (first | ((with_reducible refine gate_dst (N := 1) rfl ?_); refine box_on ?hg (N := 1) ?hd (cs := #[.int .u32 a1826]) (t := 33) ?hr ?_; (case hd => rfl); (case hg => rfl); (case hr => first | (go_simp; done) | (go_simp; rfl)); intro g1827 hg w1828 hbox hb; replace HS : Aside0 (Sep (fps []) w [b3 g1827 a1826] w1828) := ⟨HS.out.box hg hbox hb⟩; clear hg hbox hb) | ((with_reducible refine gate_dst (N := 2) rfl ?_); refine box_on ?hg (N := 2) ?hd (cs := #[.int .i64 0, .int .i64 0, .int .i64 0, .int .i64 0, .int .i64 0, .int .i64 0, .int .i64 0]) (t := 32) ?hr ?_; (case hd => rfl); (case hg => rfl); (case hr => first | (go_simp; done) | (go_simp; rfl)); intro g1830 hg w1831 hbox hb; replace HS : Aside0 (Sep (fps []) w [b3 g1827 a1826, b1 g1830 0 0 0 0 0 0 0] w1831) := ⟨HS.out.box hg hbox hb⟩; clear hg hbox hb))
  obtain ⟨t1842, HA1843, H⟩ := bind_some H
  refine (tag_Unpack_1.calls 0 2 a1826 g1827 t1842 _ ⟨HGl0.out.pass HS.out⟩ ⟨HS.out.begin⟩ HA1843).mono ?_
  rintro e_ w1844 ⟨rfl, hS⟩
  replace HS : Aside0 (Sep (fps []) w [b3 g1827 a1826, b1 g1830 0 0 0 0 0 0 0] w1844) := ⟨HS.out.call hS⟩
  clear hS
  go_wp2_with fail
  obtain ⟨t1845, HA1846, H⟩ := bind_some H
  refine (tag_Unpack_1.calls 2 1 a1826 g1827 t1845 _ ⟨HGl0.out.pass HS.out⟩ ⟨HS.out.begin⟩ HA1846).mono ?_
  rintro e_ w1847 ⟨rfl, hS⟩
  replace HS : Aside0 (Sep (fps []) w [b3 g1827 a1826, b1 g1830 0 0 0 0 0 0 0] w1847) := ⟨HS.out.call hS⟩
  clear hS
  go_wp2_with fail
  obtain ⟨t1848, HA1849, H⟩ := bind_some H
  refine (tag_Unpack_1.calls 3 1 a1826 g1827 t1848 _ ⟨HGl0.out.pass HS.out⟩ ⟨HS.out.begin⟩ HA1849).mono ?_
  rintro e_ w1850 ⟨rfl, hS⟩
  replace HS : Aside0 (Sep (fps []) w [b3 g1827 a1826, b1 g1830 0 0 0 0 0 0 0] w1850) := ⟨HS.out.call hS⟩
  clear hS
  go_wp2_with fail
  obtain ⟨t1851, HA1852, H⟩ := bind_some H
  refine (tag_Unpack_1.calls 4 1 a1826 g1827 t1851 _ ⟨HGl0.out.pass HS.out⟩ ⟨HS.out.begin⟩ HA1852).mono ?_
  rintro e_ w1853 ⟨rfl, hS⟩
  replace HS : Aside0 (Sep (fps []) w [b3 g1827 a1826, b1 g1830 0 0 0 0 0 0 0] w1853) := ⟨HS.out.call hS⟩
  clear hS
  go_wp2_with fail
  obtain ⟨t1854, HA1855, H⟩ := bind_some H
  refine (tag_Unpack_1.calls 5 1 a1826 g1827 t1854 _ ⟨HGl0.out.pass HS.out⟩ ⟨HS.out.begin⟩ HA1855).mono ?_
  rintro e_ w1856 ⟨rfl, hS⟩
  replace HS : Aside0 (Sep (fps []) w [b3 g1827 a1826, b1 g1830 0 0 0 0 0 0 0] w1856) := ⟨HS.out.call hS⟩
  clear hS
  go_wp2_with fail
  obtain ⟨t1857, HA1858, H⟩ := bind_some H
  refine (tag_Unpack_1.calls 6 1 a1826 g1827 t1857 _ ⟨HGl0.out.pass HS.out⟩ ⟨HS.out.begin⟩ HA1858).mono ?_
  rintro e_ w1859 ⟨rfl, hS⟩
  replace HS : Aside0 (Sep (fps []) w [b3 g1827 a1826, b1 g1830 0 0 0 0 0 0 0] w1859) := ⟨HS.out.call hS⟩
  clear hS
  go_wp2_with fail
  obtain ⟨t1860, HA1861, H⟩ := bind_some H
  refine (tag_Unpack_1.calls 8 24 a1826 g1827 t1860 _ ⟨HGl0.out.pass HS.out⟩ ⟨HS.out.begin⟩ HA1861).mono ?_
  rintro e_ w1862 ⟨rfl, hS⟩
  replace HS : Aside0 (Sep (fps []) w [b3 g1827 a1826, b1 g1830 0 0 0 0 0 0 0] w1862) := ⟨HS.out.call hS⟩
  clear hS
  have hc1863 : w1862.cell? ⟨g1830, 0, none⟩ = some (.int .i64 0) := blk_cellv (HS.out.at1) 0 rfl
  have hz1864 : w1862.frozen? ⟨g1830, 0, none⟩ = false := blk_fz (HS.out.at1) 0
  have hc1865 : w1862.cell? ⟨g1830, 1, none⟩ = some (.int .i64 0) := blk_cellv (HS.out.at1) 1 rfl
  have hz1866 : w1862.frozen? ⟨g1830, 1, none⟩ = false := blk_fz (HS.out.at1) 1
  have hc1867 : w1862.cell? ⟨g1830, 2, none⟩ = some (.int .i64 0) := blk_cellv (HS.out.at1) 2 rfl
  have hz1868 : w1862.frozen? ⟨g1830, 2, none⟩ = false := blk_fz (HS.out.at1) 2
  have hc1869 : w1862.cell? ⟨g1830, 3, none⟩ = some (.int .i64 0) := blk_cellv (HS.out.at1) 3 rfl
  have hz1870 : w1862.frozen? ⟨g1830, 3, none⟩ = false := blk_fz (HS.out.at1) 3
  have hc1871 : w1862.cell? ⟨g1830, 4, none⟩ = some (.int .i64 0) := blk_cellv (HS.out.at1) 4 rfl
  have hz1872 : w1862.frozen? ⟨g1830, 4, none⟩ = false := blk_fz (HS.out.at1) 4
  have hc1873 : w1862.cell? ⟨g1830, 5, none⟩ = some (.int .i64 0) := blk_cellv (HS.out.at1) 5 rfl
  have hz1874 : w1862.frozen? ⟨g1830, 5, none⟩ = false := blk_fz (HS.out.at1) 5
  have hc1875 : w1862.cell? ⟨g1830, 6, none⟩ = some (.int .i64 0) := blk_cellv (HS.out.at1) 6 rfl
  have hz1876 : w1862.frozen? ⟨g1830, 6, none⟩ = false := blk_fz (HS.out.at1) 6
  go_wp2_with (first | ((with_reducible refine gate_store (t := 32) (p := 2) rfl ?_); refine store_event (w1 := (World.setCell (World.setCell (World.setCell (World.setCell (World.setCell (World.setCell (World.setCell w1862 ⟨g1830, 0, none⟩ (.int .i64 t1842)) ⟨g1830, 1, none⟩ (.int .i64 t1845)) ⟨g1830, 2, none⟩ (.int .i64 t1848)) ⟨g1830, 3, none⟩ (.int .i64 t1851)) ⟨g1830, 4, none⟩ (.int .i64 t1854)) ⟨g1830, 5, none⟩ (.int .i64 t1857)) ⟨g1830, 6, none⟩ (.int .i64 t1860))) rfl (t := 32) (p := 2) rfl rfl ?hr ?_; (case hr => first | (go_simp; done) | (go_simp; rfl)); intro w1877 hst; clear hc1863 hz1864 hc1865 hz1866 hc1867 hz1868 hc1869 hz1870 hc1871 hz1872 hc1873 hz1874 hc1875 hz1876; replace HS : Aside0 (Sep (fps []) w [b3 g1827 a1826, b1 g1830 t1842 t1845 t1848 t1851 t1854 t1857 t1860] w1877) := ⟨by rw [hst]; exact HS.out.setAll (l1 := [b3 g1827 a1826]) (l2 := []) [.int .i64 t1842, .int .i64 t1845, .int .i64 t1848, .int .i64 t1851, .int .i64 t1854, .int .i64 t1857, .int .i64 t1860] rfl⟩; clear hst; replace HS : Aside0 (Sep (fps []) w [b1 g1830 t1842 t1845 t1848 t1851 t1854 t1857 t1860] w1877) := ⟨HS.out.sub (.cons _ (.cons_cons _ .slnil))⟩))
  have hc1878 : w1877.cell? ⟨g1830, 0, none⟩ = some (.int .i64 t1842) := blk_cellv (HS.out.at0) 0 rfl
  have hc1879 : w1877.cell? ⟨g1830, 1, none⟩ = some (.int .i64 t1845) := blk_cellv (HS.out.at0) 1 rfl
  have hc1880 : w1877.cell? ⟨g1830, 2, none⟩ = some (.int .i64 t1848) := blk_cellv (HS.out.at0) 2 rfl
  have hc1881 : w1877.cell? ⟨g1830, 3, none⟩ = some (.int .i64 t1851) := blk_cellv (HS.out.at0) 3 rfl
  have hc1882 : w1877.cell? ⟨g1830, 4, none⟩ = some (.int .i64 t1854) := blk_cellv (HS.out.at0) 4 rfl
  have hc1883 : w1877.cell? ⟨g1830, 5, none⟩ = some (.int .i64 t1857) := blk_cellv (HS.out.at0) 5 rfl
  have hc1884 : w1877.cell? ⟨g1830, 6, none⟩ = some (.int .i64 t1860) := blk_cellv (HS.out.at0) 6 rfl
  refine bodyPost_ret (v := .agg #[.int .i64 t1842, .int .i64 t1845, .int .i64 t1848, .int .i64 t1851, .int .i64 t1854, .int .i64 t1857, .int .i64 t1860]) (by simp [results, Tryd.results19, go_sem, hc1878, hc1879, hc1880, hc1881, hc1882, hc1883, hc1884]) rfl ?_
  rw [← some_eq H]
  exact ⟨(by first | rfl | (simp [IntKind.wrap_u32]; done)), HS.out.sub (.cons _ .slnil)⟩
end Go.Proofs.YtobeonkddamnoaaDoor.C

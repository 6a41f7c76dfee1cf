/- Each function of the group CN does what its plain function says, and changes nothing that was there; proved by walking its code. No condition. -/
import Derived.Test.YtobeonkddamnoaaDoorQw
import Derived.Test.YtobeonkddamnoaaDoorMCN
import Derived.Test.YtobeonkddamnoaaDoorGCN0
import Derived.Test.YtobeonkddamnoaaDoorGCN1
namespace Go.Proofs.YtobeonkddamnoaaDoor.C
open Go.RowKit Go.Proofs.YtobeonkddamnoaaDoorW.PrintWords Go.Proofs.YtobeonkddamnoaaDoorW.PrintLast Go.Proofs.YtobeonkddamnoaaDoor.Q Go.Proofs.YtobeonkddamnoaaDoor.M
set_option linter.unusedVariables false
set_option linter.unusedSimpArgs false
set_option maxHeartbeats 30000000 in
set_option maxRecDepth 100000 in
theorem tag_Right.calls (k : Nat) (a2934 : Int) (a2935 : Int) (a2936 : Int) (a2937 : Int) (a2938 : Int) (a2939 : Int) (a2940 : Int) (r : Bool) (w : World)  (HGl0 : Aside0 (Gl 0 #[.int .i64 0, .int .i64 0, .int .i64 0, .int .i64 0, .int .i64 0] (fps []) w)) (HS : Aside0 (Sep (fps []) w [] w)) (H : Aside0 (tag_Right.f k a2934 a2935 a2936 a2937 a2938 a2939 a2940 = some r)) :
    Calls Tryd.prog 67 #[.agg #[.int .i64 a2934, .int .i64 a2935, .int .i64 a2936, .int .i64 a2937, .int .i64 a2938, .int .i64 a2939, .int .i64 a2940]] w fun e w' => e = .returned (.bool r) ∧ Sep (fps []) w [] w' := by
  unfold tag_Right.f at H
  go_enter Tryd.func67, Tryd.ntmps67
  go_wp2_with (first | ((with_reducible refine gate_dst (N := 1) rfl ?_); refine box_on ?hg (N := 1) ?hd (cs := #[.int .i64 a2934, .int .i64 a2935, .int .i64 a2936, .int .i64 a2937, .int .i64 a2938, .int .i64 a2939, .int .i64 a2940]) (t := 32) ?hr ?_; (case hd => rfl); (case hg => rfl); (case hr => first | (go_simp; done) | (go_simp; rfl)); intro g2941 hg w2942 hbox hb; replace HS : Aside0 (Sep (fps []) w [b17 g2941 a2934 a2935 a2936 a2937 a2938 a2939 a2940] w2942) := ⟨HS.out.box hg hbox hb⟩; clear hg hbox hb; have hc2944 : w2942.cell? ⟨g2941, 0, none⟩ = some (.int .i64 a2934) := blk_cellv (HS.out.at0) 0 rfl; have hc2945 : w2942.cell? ⟨g2941, 1, none⟩ = some (.int .i64 a2935) := blk_cellv (HS.out.at0) 1 rfl; have hc2946 : w2942.cell? ⟨g2941, 2, none⟩ = some (.int .i64 a2936) := blk_cellv (HS.out.at0) 2 rfl; have hc2947 : w2942.cell? ⟨g2941, 3, none⟩ = some (.int .i64 a2937) := blk_cellv (HS.out.at0) 3 rfl; have hc2948 : w2942.cell? ⟨g2941, 4, none⟩ = some (.int .i64 a2938) := blk_cellv (HS.out.at0) 4 rfl; have hc2949 : w2942.cell? ⟨g2941, 5, none⟩ = some (.int .i64 a2939) := blk_cellv (HS.out.at0) 5 rfl; have hc2950 : w2942.cell? ⟨g2941, 6, none⟩ = some (.int .i64 a2940) := blk_cellv (HS.out.at0) 6 rfl))
  clear hc2944 hc2945 hc2946 hc2947 hc2948 hc2949 hc2950
  obtain ⟨t2985, HA2986, H⟩ := bind_some H
  refine (tag_marks.calls a2934 a2935 a2936 a2937 a2938 a2939 a2940 t2985 _ ⟨HGl0.out.pass (l := []) HS.out⟩ ⟨Sep.start _⟩ HA2986).mono ?_
  rintro e_ w2987 ⟨rfl, hS⟩
  replace HS : Aside0 (Sep (fps []) w [b17 g2941 a2934 a2935 a2936 a2937 a2938 a2939 a2940] w2987) := ⟨HS.out.call hS⟩
  clear hS
  go_wp2_with fail
  obtain ⟨o3000, AL3001, H⟩ := bind_some H
  go_loopg [7] k (fun kq v7 wc => ∃ (x3004 : Int), v7 = .int .i64 x3004 ∧ Aside0 (tag_Right.lo0 kq t2985 x3004 = some o3000) ∧ Aside0 (Sep (fps []) w [b17 g2941 a2934 a2935 a2936 a2937 a2938 a2939 a2940] wc))
  case atStart => exact ⟨(0), (by first | rfl | (simp [IntKind.wrap_u32]; done)), AL3001, ⟨HS.out⟩⟩
  case round =>
    clear AL3001 HS
    obtain ⟨x3004, rfl, AL3001, HS⟩ := hrel
    obtain ⟨w3002, rfl⟩ : ∃ x : World, x = wr := ⟨_, rfl⟩
    cases gk with
    | zero => exact absurd AL3001.out (by simp [tag_Right.lo0])
    | succ k3003 =>
      have AL0 := AL3001.out
      rw [tag_Right.lo0] at AL0
      clear AL3001
      have AL3001 := Aside0.mk AL0
      clear AL0
      by_cases c3005 : x3004 < 5
      · have AL3001 := if_yes c3005 AL3001
        have c3005b0 : decide (x3004 < 5) = true := decide_eq_true c3005
        clear c3005
        by_cases c3006 : 0 ≤ x3004
        · have AL3001 := if_yes c3006 AL3001
          have c3006b0 : decide (0 ≤ x3004) = true := decide_eq_true c3006
          have c3006p : (0 ≤ x3004) = True := eq_true c3006
          clear c3006
          have ip3007 : (x3004 < 5) = True := eq_true (of_decide_eq_true c3005b0)
          have ix3008 : ∀ w, (Instr.index 108 (.agg #[.int .i64 t2985.1, .int .i64 t2985.2.1, .int .i64 t2985.2.2.1, .int .i64 t2985.2.2.2.1, .int .i64 t2985.2.2.2.2]) (.int .i64 x3004)).run Tryd.prog w = .ok (.int .i64 (rd [t2985.1, t2985.2.1, t2985.2.2.1, t2985.2.2.2.1, t2985.2.2.2.2] x3004)) w := run_index_ints 108 3 5 .i64 .i64 [t2985.1, t2985.2.1, t2985.2.2.1, t2985.2.2.2.1, t2985.2.2.2.2] x3004 Tryd.underlying108 (fun _ => by kernel_rfl) (fun _ => by kernel_rfl) rfl (of_decide_eq_true c3006b0) (of_decide_eq_true c3005b0)
          by_cases c3009 : (rd [t2985.1, t2985.2.1, t2985.2.2.1, t2985.2.2.2.1, t2985.2.2.2.2] x3004) = 0
          · have AL3001 := if_yes c3009 AL3001
            have c3009b0 : ((rd [t2985.1, t2985.2.1, t2985.2.2.1, t2985.2.2.2.1, t2985.2.2.2.2] x3004) == 0) = true := beq_iff_eq.mpr c3009
            have c3009b1 : ((rd [t2985.1, t2985.2.1, t2985.2.2.1, t2985.2.2.2.1, t2985.2.2.2.2] x3004) != 0) = false := bne_eq_false_iff_eq.mpr c3009
            clear c3009
            go_wp2_with fail
            go_roundg k3003
            case measure => exact Nat.lt_succ_self _
            case rel => exact ⟨(wrap64 (x3004 + 1)), (by first | rfl | (simp [IntKind.wrap_u32]; done)), Aside0.mk AL3001.out, ⟨HS.out⟩⟩
          · have AL3001 := if_no c3009 AL3001
            have c3009b0 : ((rd [t2985.1, t2985.2.1, t2985.2.2.1, t2985.2.2.2.1, t2985.2.2.2.2] x3004) == 0) = false := beq_eq_false_iff_ne.mpr c3009
            have c3009b1 : ((rd [t2985.1, t2985.2.1, t2985.2.2.1, t2985.2.2.2.1, t2985.2.2.2.2] x3004) != 0) = true := bne_iff_ne.mpr c3009
            clear c3009
            by_cases c3010 : (rd [t2985.1, t2985.2.1, t2985.2.2.1, t2985.2.2.2.1, t2985.2.2.2.2] x3004) = 1
            · have AL3001 := if_yes c3010 AL3001
              have c3010b0 : ((rd [t2985.1, t2985.2.1, t2985.2.2.1, t2985.2.2.2.1, t2985.2.2.2.2] x3004) == 1) = true := beq_iff_eq.mpr c3010
              have c3010b1 : ((rd [t2985.1, t2985.2.1, t2985.2.2.1, t2985.2.2.2.1, t2985.2.2.2.2] x3004) != 1) = false := bne_eq_false_iff_eq.mpr c3010
              clear c3010
              go_wp2_with fail
              go_roundg k3003
              case measure => exact Nat.lt_succ_self _
              case rel => exact ⟨(wrap64 (x3004 + 1)), (by first | rfl | (simp [IntKind.wrap_u32]; done)), Aside0.mk AL3001.out, ⟨HS.out⟩⟩
            · have AL3001 := if_no c3010 AL3001
              have c3010b0 : ((rd [t2985.1, t2985.2.1, t2985.2.2.1, t2985.2.2.2.1, t2985.2.2.2.2] x3004) == 1) = false := beq_eq_false_iff_ne.mpr c3010
              have c3010b1 : ((rd [t2985.1, t2985.2.1, t2985.2.2.1, t2985.2.2.2.1, t2985.2.2.2.2] x3004) != 1) = true := bne_iff_ne.mpr c3010
              clear c3010
              go_wp2_with fail
              have ho := some_eq AL3001
              subst ho
              have H := lp_ret H
              go_ret
              rw [← some_eq H]
              exact ⟨(by first | rfl | (simp [IntKind.wrap_u32]; done)), HS.out.sub (.cons _ .slnil)⟩
        · have AL3001 := if_no c3006 AL3001
          have c3006b0 : decide (0 ≤ x3004) = false := decide_eq_false c3006
          clear c3006
          exact (none_no AL3001).elim
      · have AL3001 := if_no c3005 AL3001
        have c3005b0 : decide (x3004 < 5) = false := decide_eq_false c3005
        clear c3005
        have ho := some_eq AL3001
        subst ho
        clear AL3001
        have H := lp_out H
        by_cases c3012 : a2934 = 1
        · have H := if_yes c3012 H
          have c3012b0 : (a2934 == 1) = true := beq_iff_eq.mpr c3012
          have c3012b1 : (a2934 != 1) = false := bne_eq_false_iff_eq.mpr c3012
          clear c3012
          have hc3011 : w3002.cell? ⟨g2941, 0, none⟩ = some (.int .i64 a2934) := blk_cellv (HS.out.at0) 0 rfl
          have hc3013 : w3002.cell? ⟨g2941, 6, none⟩ = some (.int .i64 a2940) := blk_cellv (HS.out.at0) 6 rfl
          replace HS : Aside0 (Sep (fps []) w [] w3002) := ⟨HS.out.sub (.cons _ .slnil)⟩
          go_wp2_with fail
          clear hc3011 hc3013
          go_ret
          rw [← some_eq H]
          exact ⟨(by first | rfl | (simp [IntKind.wrap_u32]; done)), HS.out⟩
        · have H := if_no c3012 H
          have c3012b0 : (a2934 == 1) = false := beq_eq_false_iff_ne.mpr c3012
          have c3012b1 : (a2934 != 1) = true := bne_iff_ne.mpr c3012
          clear c3012
          by_cases c3014 : a2934 = 2
          · have H := if_yes c3014 H
            have c3014b0 : (a2934 == 2) = true := beq_iff_eq.mpr c3014
            have c3014b1 : (a2934 != 2) = false := bne_eq_false_iff_eq.mpr c3014
            clear c3014
            have hc3011 : w3002.cell? ⟨g2941, 0, none⟩ = some (.int .i64 a2934) := blk_cellv (HS.out.at0) 0 rfl
            have hc3015 : w3002.cell? ⟨g2941, 6, none⟩ = some (.int .i64 a2940) := blk_cellv (HS.out.at0) 6 rfl
            replace HS : Aside0 (Sep (fps []) w [] w3002) := ⟨HS.out.sub (.cons _ .slnil)⟩
            go_wp2_with fail
            clear hc3011 hc3015
            go_ret
            rw [← some_eq H]
            exact ⟨(by first | rfl | (simp [IntKind.wrap_u32]; done)), HS.out⟩
          · have H := if_no c3014 H
            have c3014b0 : (a2934 == 2) = false := beq_eq_false_iff_ne.mpr c3014
            have c3014b1 : (a2934 != 2) = true := bne_iff_ne.mpr c3014
            clear c3014
            by_cases c3016 : a2934 = 0
            · have H := if_yes c3016 H
              have c3016b0 : (a2934 == 0) = true := beq_iff_eq.mpr c3016
              have c3016b1 : (a2934 != 0) = false := bne_eq_false_iff_eq.mpr c3016
              clear c3016
              have hc3011 : w3002.cell? ⟨g2941, 0, none⟩ = some (.int .i64 a2934) := blk_cellv (HS.out.at0) 0 rfl
              go_wp2_with fail
              clear hc3011
              refine start_ (n := 25) (S := (fun w' => w'.cell? ⟨g2941, 0, none⟩ = some (.int .i64 a2934) ∧ w'.cell? ⟨g2941, 1, none⟩ = some (.int .i64 a2935) ∧ w'.cell? ⟨g2941, 2, none⟩ = some (.int .i64 a2936) ∧ w'.cell? ⟨g2941, 3, none⟩ = some (.int .i64 a2937) ∧ w'.cell? ⟨g2941, 4, none⟩ = some (.int .i64 a2938) ∧ w'.cell? ⟨g2941, 5, none⟩ = some (.int .i64 a2939) ∧ w'.cell? ⟨g2941, 6, none⟩ = some (.int .i64 a2940) ∧ w'.cell? ⟨0, 0, none⟩ = some (.int .i64 0) ∧ w'.cell? ⟨0, 1, none⟩ = some (.int .i64 0) ∧ w'.cell? ⟨0, 2, none⟩ = some (.int .i64 0) ∧ w'.cell? ⟨0, 3, none⟩ = some (.int .i64 0) ∧ w'.cell? ⟨0, 4, none⟩ = some (.int .i64 0))) (ds := []) #[false, false, false, false, false, false, false, false, false, false, false, false, false, false, false, false, false, false, false, false, false, false, false, false, false] (by kernel_rfl) rfl rfl (⟨blk_cellv ((HS.out.drew).at0) 0 rfl, blk_cellv ((HS.out.drew).at0) 1 rfl, blk_cellv ((HS.out.drew).at0) 2 rfl, blk_cellv ((HS.out.drew).at0) 3 rfl, blk_cellv ((HS.out.drew).at0) 4 rfl, blk_cellv ((HS.out.drew).at0) 5 rfl, blk_cellv ((HS.out.drew).at0) 6 rfl, Gl.cell HGl0.out (HS.out.drew).fr 0 rfl, Gl.cell HGl0.out (HS.out.drew).fr 1 rfl, Gl.cell HGl0.out (HS.out.drew).fr 2 rfl, Gl.cell HGl0.out (HS.out.drew).fr 3 rfl, Gl.cell HGl0.out (HS.out.drew).fr 4 rfl⟩) (fun hHeld => ?_)
              have HS_ := Aside0.mk HS.out.drew
              clear HS
              generalize World.drew _ = w3018 at HS_ hHeld ⊢
              have HS := HS_
              clear HS_
              refine take_ (i := 0) (N := some 28) (v := ?_) (a' := ?_) #[true, false, false, false, false, false, false, false, false, false, false, false, false, false, false, false, false, false, false, false, false, false, false, false, false] rfl rfl (by kernel_rfl) (fun _ _ _ h => h) (Or.inl ⟨by rfl, ?_⟩) hHeld ?_ ?_
              rotate_left
              · rintro w' hS'
                obtain ⟨s0, s1, s2, s3, s4, s5, s6, s7, s8, s9, s10, s11⟩ := hS'
                go_simp
                with_reducible rfl
              rotate_left
              · simp only [Act.put, List.setIfInBounds_toArray, List.set_cons_zero, List.set_cons_succ, i64_w, i32_w]
                rfl
              refine take_ (i := 2) (N := some 30) (v := ?_) (a' := ?_) #[true, false, true, false, false, false, false, false, false, false, false, false, false, false, false, false, false, false, false, false, false, false, false, false, false] rfl rfl (by kernel_rfl) (fun _ _ _ h => h) (Or.inl ⟨by rfl, ?_⟩) hHeld ?_ ?_
              rotate_left
              · rintro w' hS'
                obtain ⟨s0, s1, s2, s3, s4, s5, s6, s7, s8, s9, s10, s11⟩ := hS'
                go_simp
                with_reducible rfl
              rotate_left
              · simp only [Act.put, List.setIfInBounds_toArray, List.set_cons_zero, List.set_cons_succ, i64_w, i32_w]
                rfl
              refine one_ (i := 1) (N := some 29) #[true, true, true, false, false, false, false, false, false, false, false, false, false, false, false, false, false, false, false, false, false, false, false, false, false] rfl rfl (by kernel_rfl) (by decide) (fun K hK => ?_)
              obtain ⟨t3019, HA3020, H⟩ := bind_some H
              refine goes_ Tryd.func68 (by kernel_rfl) rfl #[.agg #[.int .i64 a2934, .int .i64 a2935, .int .i64 a2936, .int .i64 a2937, .int .i64 a2938, .int .i64 a2939, .int .i64 a2940]] (by rfl) rfl rfl (by (try simp only [List.map_toArray, List.map_cons, List.map_nil]); first | done | rfl) ?_
              refine (tag_marks.calls a2934 a2935 a2936 a2937 a2938 a2939 a2940 t3019 _ ⟨HGl0.out.pass (l := []) HS.out⟩ ⟨Sep.start _⟩ HA3020).mono ?_
              rintro e_ w3021 ⟨rfl, hS⟩
              replace HS : Aside0 (Sep (fps []) w [b17 g2941 a2934 a2935 a2936 a2937 a2938 a2939 a2940] w3021) := ⟨HS.out.call hS⟩
              clear hS
              refine ⟨_, rfl, ?_⟩
              refine hK.out _ _ (⟨blk_cellv (HS.out.at0) 0 rfl, blk_cellv (HS.out.at0) 1 rfl, blk_cellv (HS.out.at0) 2 rfl, blk_cellv (HS.out.at0) 3 rfl, blk_cellv (HS.out.at0) 4 rfl, blk_cellv (HS.out.at0) 5 rfl, blk_cellv (HS.out.at0) 6 rfl, Gl.cell HGl0.out HS.out.fr 0 rfl, Gl.cell HGl0.out HS.out.fr 1 rfl, Gl.cell HGl0.out HS.out.fr 2 rfl, Gl.cell HGl0.out HS.out.fr 3 rfl, Gl.cell HGl0.out HS.out.fr 4 rfl⟩) (fun hHeld => ?_)
              clear hK K
              refine norm_ (a' := ?_) ?_ ?_
              rotate_left
              · show Act.put _ (some 29) _ = _
                simp only [Act.put, List.setIfInBounds_toArray, List.set_cons_zero, List.set_cons_succ, i64_w, i32_w]
                rfl
              obtain ⟨b3023, HA3024, H⟩ := bind_some H
              have eb3022 : ∀ w, (Op.equalIn 10000 108 (.agg #[.int .i64 t3019.1, .int .i64 t3019.2.1, .int .i64 t3019.2.2.1, .int .i64 t3019.2.2.2.1, .int .i64 t3019.2.2.2.2]) (.agg #[.int .i64 0, .int .i64 0, .int .i64 0, .int .i64 0, .int .i64 0])).run Tryd.prog w = .ok b3023 w := some_eq HA3024 ▸ run_eq_ints 9998 108 3 5 .i64 [t3019.1, t3019.2.1, t3019.2.2.1, t3019.2.2.2.1, t3019.2.2.2.2] [0, 0, 0, 0, 0] Tryd.underlying108 (by kernel_rfl) (by kernel_rfl) Tryd.underlying3 (fun _ => by kernel_rfl) rfl rfl
              refine pure_ (i := 3) (N := some 31) (v := ?_) (a' := ?_) #[true, true, true, true, false, false, false, false, false, false, false, false, false, false, false, false, false, false, false, false, false, false, false, false, false] rfl rfl (by kernel_rfl) (fun _ _ _ h => h) (Or.inl ⟨by rfl, ?_⟩) ?_ ?_
              rotate_left
              · intro w'
                go_simp
                with_reducible rfl
              rotate_left
              · simp only [Act.put, List.setIfInBounds_toArray, List.set_cons_zero, List.set_cons_succ, i64_w, i32_w]
                rfl
              refine pure_ (i := 4) (N := some 32) (v := ?_) (a' := ?_) #[true, true, true, true, true, false, false, false, false, false, false, false, false, false, false, false, false, false, false, false, false, false, false, false, false] rfl rfl (by kernel_rfl) (fun _ _ _ h => h) (Or.inl ⟨by rfl, ?_⟩) ?_ ?_
              rotate_left
              · intro w'
                go_simp
                with_reducible rfl
              rotate_left
              · simp only [Act.put, List.setIfInBounds_toArray, List.set_cons_zero, List.set_cons_succ, i64_w, i32_w]
                rfl
              by_cases c3025 : b3023 = true
              · have H := if_yes c3025 H
                have c3025b0 : b3023 = true := c3025
                have c3025b1 : (!b3023) = false := by rw [c3025b0]; rfl
                clear c3025
                try simp only [c3025b0, Bool.not_true, Bool.not_false]
                refine pure_ (i := 5) (N := some 33) (v := ?_) (a' := ?_) #[true, true, true, true, true, true, false, false, false, false, false, false, false, false, false, false, false, false, false, false, false, false, false, false, false] rfl rfl (by kernel_rfl) (fun _ _ _ h => h) (Or.inl ⟨by rfl, ?_⟩) ?_ ?_
                rotate_left
                · intro w'
                  go_simp
                  with_reducible rfl
                rotate_left
                · simp only [Act.put, List.setIfInBounds_toArray, List.set_cons_zero, List.set_cons_succ, i64_w, i32_w]
                  rfl
                try simp only [c3025b0, Bool.not_true, Bool.not_false]
                refine take_ (i := 6) (N := some 34) (v := ?_) (a' := ?_) #[true, true, true, true, true, true, true, false, false, false, false, false, false, false, false, false, false, false, false, false, false, false, false, false, false] rfl rfl (by kernel_rfl) (fun _ _ _ h => h) (Or.inl ⟨by rfl, ?_⟩) hHeld ?_ ?_
                rotate_left
                · rintro w' hS'
                  obtain ⟨s0, s1, s2, s3, s4, s5, s6, s7, s8, s9, s10, s11⟩ := hS'
                  go_simp
                  with_reducible rfl
                rotate_left
                · simp only [Act.put, List.setIfInBounds_toArray, List.set_cons_zero, List.set_cons_succ, i64_w, i32_w]
                  rfl
                try simp only [c3025b0, Bool.not_true, Bool.not_false]
                refine pure_ (i := 7) (N := some 35) (v := ?_) (a' := ?_) #[true, true, true, true, true, true, true, true, false, false, false, false, false, false, false, false, false, false, false, false, false, false, false, false, false] rfl rfl (by kernel_rfl) (fun _ _ _ h => h) (Or.inl ⟨by rfl, ?_⟩) ?_ ?_
                rotate_left
                · intro w'
                  go_simp
                  with_reducible rfl
                rotate_left
                · simp only [Act.put, List.setIfInBounds_toArray, List.set_cons_zero, List.set_cons_succ, i64_w, i32_w]
                  rfl
                refine pure_ (i := 8) (N := some 36) (v := ?_) (a' := ?_) #[true, true, true, true, true, true, true, true, true, false, false, false, false, false, false, false, false, false, false, false, false, false, false, false, false] rfl rfl (by kernel_rfl) (fun _ _ _ h => h) (Or.inl ⟨by rfl, ?_⟩) ?_ ?_
                rotate_left
                · intro w'
                  go_simp
                  with_reducible rfl
                rotate_left
                · simp only [Act.put, List.setIfInBounds_toArray, List.set_cons_zero, List.set_cons_succ, i64_w, i32_w]
                  rfl
                refine pure_ (i := 9) (N := some 37) (v := ?_) (a' := ?_) #[true, true, true, true, true, true, true, true, true, true, false, false, false, false, false, false, false, false, false, false, false, false, false, false, false] rfl rfl (by kernel_rfl) (fun _ _ _ h => h) (Or.inl ⟨by rfl, ?_⟩) ?_ ?_
                rotate_left
                · intro w'
                  go_simp
                  with_reducible rfl
                rotate_left
                · simp only [Act.put, List.setIfInBounds_toArray, List.set_cons_zero, List.set_cons_succ, i64_w, i32_w]
                  rfl
                by_cases c3026 : a2940 ≥ 0
                · have H := if_yes c3026 H
                  have c3026b0 : decide (0 ≤ a2940) = true := decide_eq_true c3026
                  clear c3026
                  try simp only [c3026b0, Bool.not_true, Bool.not_false]
                  refine pure_ (i := 10) (N := some 38) (v := ?_) (a' := ?_) #[true, true, true, true, true, true, true, true, true, true, true, false, false, false, false, false, false, false, false, false, false, false, false, false, false] rfl rfl (by kernel_rfl) (fun _ _ _ h => h) (Or.inl ⟨by rfl, ?_⟩) ?_ ?_
                  rotate_left
                  · intro w'
                    go_simp
                    with_reducible rfl
                  rotate_left
                  · simp only [Act.put, List.setIfInBounds_toArray, List.set_cons_zero, List.set_cons_succ, i64_w, i32_w]
                    rfl
                  try simp only [c3026b0, Bool.not_true, Bool.not_false]
                  refine take_ (i := 11) (N := some 39) (v := ?_) (a' := ?_) #[true, true, true, true, true, true, true, true, true, true, true, true, false, false, false, false, false, false, false, false, false, false, false, false, false] rfl rfl (by kernel_rfl) (fun _ _ _ h => h) (Or.inl ⟨by rfl, ?_⟩) hHeld ?_ ?_
                  rotate_left
                  · rintro w' hS'
                    obtain ⟨s0, s1, s2, s3, s4, s5, s6, s7, s8, s9, s10, s11⟩ := hS'
                    go_simp
                    with_reducible rfl
                  rotate_left
                  · simp only [Act.put, List.setIfInBounds_toArray, List.set_cons_zero, List.set_cons_succ, i64_w, i32_w]
                    rfl
                  try simp only [c3026b0, Bool.not_true, Bool.not_false]
                  refine pure_ (i := 12) (N := some 40) (v := ?_) (a' := ?_) #[true, true, true, true, true, true, true, true, true, true, true, true, true, false, false, false, false, false, false, false, false, false, false, false, false] rfl rfl (by kernel_rfl) (fun _ _ _ h => h) (Or.inl ⟨by rfl, ?_⟩) ?_ ?_
                  rotate_left
                  · intro w'
                    go_simp
                    with_reducible rfl
                  rotate_left
                  · simp only [Act.put, List.setIfInBounds_toArray, List.set_cons_zero, List.set_cons_succ, i64_w, i32_w]
                    rfl
                  refine pure_ (i := 13) (N := some 41) (v := ?_) (a' := ?_) #[true, true, true, true, true, true, true, true, true, true, true, true, true, true, false, false, false, false, false, false, false, false, false, false, false] rfl rfl (by kernel_rfl) (fun _ _ _ h => h) (Or.inl ⟨by rfl, ?_⟩) ?_ ?_
                  rotate_left
                  · intro w'
                    go_simp
                    with_reducible rfl
                  rotate_left
                  · simp only [Act.put, List.setIfInBounds_toArray, List.set_cons_zero, List.set_cons_succ, i64_w, i32_w]
                    rfl
                  refine pure_ (i := 14) (N := some 42) (v := ?_) (a' := ?_) #[true, true, true, true, true, true, true, true, true, true, true, true, true, true, true, false, false, false, false, false, false, false, false, false, false] rfl rfl (by kernel_rfl) (fun _ _ _ h => h) (Or.inl ⟨by rfl, ?_⟩) ?_ ?_
                  rotate_left
                  · intro w'
                    go_simp
                    with_reducible rfl
                  rotate_left
                  · simp only [Act.put, List.setIfInBounds_toArray, List.set_cons_zero, List.set_cons_succ, i64_w, i32_w]
                    rfl
                  by_cases c3027 : a2940 < 1048576
                  · have H := if_yes c3027 H
                    have c3027b0 : decide (a2940 < 1048576) = true := decide_eq_true c3027
                    clear c3027
                    try simp only [c3027b0, Bool.not_true, Bool.not_false]
                    refine pure_ (i := 15) (N := some 43) (v := ?_) (a' := ?_) #[true, true, true, true, true, true, true, true, true, true, true, true, true, true, true, true, false, false, false, false, false, false, false, false, false] rfl rfl (by kernel_rfl) (fun _ _ _ h => h) (Or.inl ⟨by rfl, ?_⟩) ?_ ?_
                    rotate_left
                    · intro w'
                      go_simp
                      with_reducible rfl
                    rotate_left
                    · simp only [Act.put, List.setIfInBounds_toArray, List.set_cons_zero, List.set_cons_succ, i64_w, i32_w]
                      rfl
                    try simp only [c3027b0, Bool.not_true, Bool.not_false]
                    refine take_ (i := 16) (N := some 44) (v := ?_) (a' := ?_) #[true, true, true, true, true, true, true, true, true, true, true, true, true, true, true, true, true, false, false, false, false, false, false, false, false] rfl rfl (by kernel_rfl) (fun _ _ _ h => h) (Or.inl ⟨by rfl, ?_⟩) hHeld ?_ ?_
                    rotate_left
                    · rintro w' hS'
                      obtain ⟨s0, s1, s2, s3, s4, s5, s6, s7, s8, s9, s10, s11⟩ := hS'
                      go_simp
                      with_reducible rfl
                    rotate_left
                    · simp only [Act.put, List.setIfInBounds_toArray, List.set_cons_zero, List.set_cons_succ, i64_w, i32_w]
                      rfl
                    try simp only [c3027b0, Bool.not_true, Bool.not_false]
                    refine pure_ (i := 17) (N := some 45) (v := ?_) (a' := ?_) #[true, true, true, true, true, true, true, true, true, true, true, true, true, true, true, true, true, true, false, false, false, false, false, false, false] rfl rfl (by kernel_rfl) (fun _ _ _ h => h) (Or.inl ⟨by rfl, ?_⟩) ?_ ?_
                    rotate_left
                    · intro w'
                      go_simp
                      with_reducible rfl
                    rotate_left
                    · simp only [Act.put, List.setIfInBounds_toArray, List.set_cons_zero, List.set_cons_succ, i64_w, i32_w]
                      rfl
                    try simp only [c3027b0, Bool.not_true, Bool.not_false]
                    refine pure_ (i := 18) (N := some 46) (v := ?_) (a' := ?_) #[true, true, true, true, true, true, true, true, true, true, true, true, true, true, true, true, true, true, true, false, false, false, false, false, false] rfl rfl (by kernel_rfl) (fun _ _ _ h => h) (Or.inl ⟨by rfl, ?_⟩) ?_ ?_
                    rotate_left
                    · intro w'
                      go_simp
                      with_reducible rfl
                    rotate_left
                    · simp only [Act.put, List.setIfInBounds_toArray, List.set_cons_zero, List.set_cons_succ, i64_w, i32_w]
                      rfl
                    by_cases c3028 : a2934 = 3
                    · have H := if_yes c3028 H
                      have c3028b0 : (a2934 == 3) = true := beq_iff_eq.mpr c3028
                      have c3028b1 : (a2934 != 3) = false := bne_eq_false_iff_eq.mpr c3028
                      clear c3028
                      try simp only [c3028b0, Bool.not_true, Bool.not_false]
                      refine pure_ (i := 19) (N := some 47) (v := undef) (a' := ?_) #[true, true, true, true, true, true, true, true, true, true, true, true, true, true, true, true, true, true, true, true, false, false, false, false, false] rfl rfl (by kernel_rfl) (fun _ _ _ h => h) (Or.inr ⟨by rfl, rfl⟩) ?_ ?_
                      rotate_left
                      · simp only [Act.put, List.setIfInBounds_toArray, List.set_cons_zero, List.set_cons_succ, i64_w, i32_w]
                        rfl
                      try simp only [c3028b0, Bool.not_true, Bool.not_false]
                      refine pure_ (i := 20) (N := some 48) (v := undef) (a' := ?_) #[true, true, true, true, true, true, true, true, true, true, true, true, true, true, true, true, true, true, true, true, true, false, false, false, false] rfl rfl (by kernel_rfl) (fun _ _ _ h => h) (Or.inr ⟨by rfl, rfl⟩) ?_ ?_
                      rotate_left
                      · simp only [Act.put, List.setIfInBounds_toArray, List.set_cons_zero, List.set_cons_succ, i64_w, i32_w]
                        rfl
                      try simp only [c3028b0, Bool.not_true, Bool.not_false]
                      refine pure_ (i := 21) (N := some 49) (v := undef) (a' := ?_) #[true, true, true, true, true, true, true, true, true, true, true, true, true, true, true, true, true, true, true, true, true, true, false, false, false] rfl rfl (by kernel_rfl) (fun _ _ _ h => h) (Or.inr ⟨by rfl, rfl⟩) ?_ ?_
                      rotate_left
                      · simp only [Act.put, List.setIfInBounds_toArray, List.set_cons_zero, List.set_cons_succ, i64_w, i32_w]
                        rfl
                      try simp only [c3027b0, Bool.not_true, Bool.not_false]
                      refine pure_ (i := 22) (N := some 50) (v := ?_) (a' := ?_) #[true, true, true, true, true, true, true, true, true, true, true, true, true, true, true, true, true, true, true, true, true, true, true, false, false] rfl rfl (by kernel_rfl) (fun _ _ _ h => h) (Or.inl ⟨by rfl, ?_⟩) ?_ ?_
                      rotate_left
                      · intro w'
                        go_simp
                        with_reducible rfl
                      rotate_left
                      · simp only [Act.put, List.setIfInBounds_toArray, List.set_cons_zero, List.set_cons_succ, i64_w, i32_w]
                        rfl
                      refine pure_ (i := 23) (N := some 51) (v := ?_) (a' := ?_) #[true, true, true, true, true, true, true, true, true, true, true, true, true, true, true, true, true, true, true, true, true, true, true, true, false] rfl rfl (by kernel_rfl) (fun _ _ _ h => h) (Or.inl ⟨by rfl, ?_⟩) ?_ ?_
                      rotate_left
                      · intro w'
                        go_simp
                        with_reducible rfl
                      rotate_left
                      · simp only [Act.put, List.setIfInBounds_toArray, List.set_cons_zero, List.set_cons_succ, i64_w, i32_w]
                        rfl
                      refine pure_ (i := 24) (N := some 2) (v := ?_) (a' := ?_) #[true, true, true, true, true, true, true, true, true, true, true, true, true, true, true, true, true, true, true, true, true, true, true, true, true] rfl rfl (by kernel_rfl) (fun _ _ _ h => h) (Or.inl ⟨by rfl, ?_⟩) ?_ ?_
                      rotate_left
                      · intro w'
                        go_simp
                        with_reducible rfl
                      rotate_left
                      · simp only [Act.put, List.setIfInBounds_toArray, List.set_cons_zero, List.set_cons_succ, i64_w, i32_w]
                        rfl
                      refine done_ (by kernel_rfl) ?_
                      replace HS : Aside0 (Sep (fps []) w [] w3021) := ⟨HS.out.sub (.cons _ .slnil)⟩
                      go_wp2_with fail
                      go_ret
                      rw [← some_eq H]
                      exact ⟨(by first | rfl | (simp [IntKind.wrap_u32]; done)), HS.out⟩
                    · have H := if_no c3028 H
                      have c3028b0 : (a2934 == 3) = false := beq_eq_false_iff_ne.mpr c3028
                      have c3028b1 : (a2934 != 3) = true := bne_iff_ne.mpr c3028
                      clear c3028
                      try simp only [c3028b0, Bool.not_true, Bool.not_false]
                      refine pure_ (i := 19) (N := some 47) (v := ?_) (a' := ?_) #[true, true, true, true, true, true, true, true, true, true, true, true, true, true, true, true, true, true, true, true, false, false, false, false, false] rfl rfl (by kernel_rfl) (fun _ _ _ h => h) (Or.inl ⟨by rfl, ?_⟩) ?_ ?_
                      rotate_left
                      · intro w'
                        go_simp
                        with_reducible rfl
                      rotate_left
                      · simp only [Act.put, List.setIfInBounds_toArray, List.set_cons_zero, List.set_cons_succ, i64_w, i32_w]
                        rfl
                      try simp only [c3028b0, Bool.not_true, Bool.not_false]
                      refine take_ (i := 20) (N := some 48) (v := ?_) (a' := ?_) #[true, true, true, true, true, true, true, true, true, true, true, true, true, true, true, true, true, true, true, true, true, false, false, false, false] rfl rfl (by kernel_rfl) (fun _ _ _ h => h) (Or.inl ⟨by rfl, ?_⟩) hHeld ?_ ?_
                      rotate_left
                      · rintro w' hS'
                        obtain ⟨s0, s1, s2, s3, s4, s5, s6, s7, s8, s9, s10, s11⟩ := hS'
                        go_simp
                        with_reducible rfl
                      rotate_left
                      · simp only [Act.put, List.setIfInBounds_toArray, List.set_cons_zero, List.set_cons_succ, i64_w, i32_w]
                        rfl
                      try simp only [c3028b0, Bool.not_true, Bool.not_false]
                      refine pure_ (i := 21) (N := some 49) (v := ?_) (a' := ?_) #[true, true, true, true, true, true, true, true, true, true, true, true, true, true, true, true, true, true, true, true, true, true, false, false, false] rfl rfl (by kernel_rfl) (fun _ _ _ h => h) (Or.inl ⟨by rfl, ?_⟩) ?_ ?_
                      rotate_left
                      · intro w'
                        go_simp
                        with_reducible rfl
                      rotate_left
                      · simp only [Act.put, List.setIfInBounds_toArray, List.set_cons_zero, List.set_cons_succ, i64_w, i32_w]
                        rfl
                      try simp only [c3027b0, Bool.not_true, Bool.not_false]
                      refine pure_ (i := 22) (N := some 50) (v := ?_) (a' := ?_) #[true, true, true, true, true, true, true, true, true, true, true, true, true, true, true, true, true, true, true, true, true, true, true, false, false] rfl rfl (by kernel_rfl) (fun _ _ _ h => h) (Or.inl ⟨by rfl, ?_⟩) ?_ ?_
                      rotate_left
                      · intro w'
                        go_simp
                        with_reducible rfl
                      rotate_left
                      · simp only [Act.put, List.setIfInBounds_toArray, List.set_cons_zero, List.set_cons_succ, i64_w, i32_w]
                        rfl
                      refine pure_ (i := 23) (N := some 51) (v := ?_) (a' := ?_) #[true, true, true, true, true, true, true, true, true, true, true, true, true, true, true, true, true, true, true, true, true, true, true, true, false] rfl rfl (by kernel_rfl) (fun _ _ _ h => h) (Or.inl ⟨by rfl, ?_⟩) ?_ ?_
                      rotate_left
                      · intro w'
                        go_simp
                        with_reducible rfl
                      rotate_left
                      · simp only [Act.put, List.setIfInBounds_toArray, List.set_cons_zero, List.set_cons_succ, i64_w, i32_w]
                        rfl
                      refine pure_ (i := 24) (N := some 2) (v := ?_) (a' := ?_) #[true, true, true, true, true, true, true, true, true, true, true, true, true, true, true, true, true, true, true, true, true, true, true, true, true] rfl rfl (by kernel_rfl) (fun _ _ _ h => h) (Or.inl ⟨by rfl, ?_⟩) ?_ ?_
                      rotate_left
                      · intro w'
                        go_simp
                        with_reducible rfl
                      rotate_left
                      · simp only [Act.put, List.setIfInBounds_toArray, List.set_cons_zero, List.set_cons_succ, i64_w, i32_w]
                        rfl
                      refine done_ (by kernel_rfl) ?_
                      replace HS : Aside0 (Sep (fps []) w [] w3021) := ⟨HS.out.sub (.cons _ .slnil)⟩
                      go_wp2_with fail
                      go_ret
                      rw [← some_eq H]
                      exact ⟨(by first | rfl | (simp [IntKind.wrap_u32]; done)), HS.out⟩
                  · have H := if_no c3027 H
                    have c3027b0 : decide (a2940 < 1048576) = false := decide_eq_false c3027
                    clear c3027
                    try simp only [c3027b0, Bool.not_true, Bool.not_false]
                    refine pure_ (i := 15) (N := some 43) (v := undef) (a' := ?_) #[true, true, true, true, true, true, true, true, true, true, true, true, true, true, true, true, false, false, false, false, false, false, false, false, false] rfl rfl (by kernel_rfl) (fun _ _ _ h => h) (Or.inr ⟨by rfl, rfl⟩) ?_ ?_
                    rotate_left
                    · simp only [Act.put, List.setIfInBounds_toArray, List.set_cons_zero, List.set_cons_succ, i64_w, i32_w]
                      rfl
                    try simp only [c3027b0, Bool.not_true, Bool.not_false]
                    refine pure_ (i := 16) (N := some 44) (v := undef) (a' := ?_) #[true, true, true, true, true, true, true, true, true, true, true, true, true, true, true, true, true, false, false, false, false, false, false, false, false] rfl rfl (by kernel_rfl) (fun _ _ _ h => h) (Or.inr ⟨by rfl, rfl⟩) ?_ ?_
                    rotate_left
                    · simp only [Act.put, List.setIfInBounds_toArray, List.set_cons_zero, List.set_cons_succ, i64_w, i32_w]
                      rfl
                    try simp only [c3027b0, Bool.not_true, Bool.not_false]
                    refine pure_ (i := 17) (N := some 45) (v := undef) (a' := ?_) #[true, true, true, true, true, true, true, true, true, true, true, true, true, true, true, true, true, true, false, false, false, false, false, false, false] rfl rfl (by kernel_rfl) (fun _ _ _ h => h) (Or.inr ⟨by rfl, rfl⟩) ?_ ?_
                    rotate_left
                    · simp only [Act.put, List.setIfInBounds_toArray, List.set_cons_zero, List.set_cons_succ, i64_w, i32_w]
                      rfl
                    try simp only [c3027b0, Bool.not_true, Bool.not_false]
                    refine pure_ (i := 18) (N := some 46) (v := undef) (a' := ?_) #[true, true, true, true, true, true, true, true, true, true, true, true, true, true, true, true, true, true, true, false, false, false, false, false, false] rfl rfl (by kernel_rfl) (fun _ _ _ h => h) (Or.inr ⟨by rfl, rfl⟩) ?_ ?_
                    rotate_left
                    · simp only [Act.put, List.setIfInBounds_toArray, List.set_cons_zero, List.set_cons_succ, i64_w, i32_w]
                      rfl
                    refine pure_ (i := 19) (N := some 47) (v := undef) (a' := ?_) #[true, true, true, true, true, true, true, true, true, true, true, true, true, true, true, true, true, true, true, true, false, false, false, false, false] rfl rfl (by kernel_rfl) (fun _ _ _ h => h) (Or.inr ⟨by rfl, rfl⟩) ?_ ?_
                    rotate_left
                    · simp only [Act.put, List.setIfInBounds_toArray, List.set_cons_zero, List.set_cons_succ, i64_w, i32_w]
                      rfl
                    refine pure_ (i := 20) (N := some 48) (v := undef) (a' := ?_) #[true, true, true, true, true, true, true, true, true, true, true, true, true, true, true, true, true, true, true, true, true, false, false, false, false] rfl rfl (by kernel_rfl) (fun _ _ _ h => h) (Or.inr ⟨by rfl, rfl⟩) ?_ ?_
                    rotate_left
                    · simp only [Act.put, List.setIfInBounds_toArray, List.set_cons_zero, List.set_cons_succ, i64_w, i32_w]
                      rfl
                    refine pure_ (i := 21) (N := some 49) (v := undef) (a' := ?_) #[true, true, true, true, true, true, true, true, true, true, true, true, true, true, true, true, true, true, true, true, true, true, false, false, false] rfl rfl (by kernel_rfl) (fun _ _ _ h => h) (Or.inr ⟨by rfl, rfl⟩) ?_ ?_
                    rotate_left
                    · simp only [Act.put, List.setIfInBounds_toArray, List.set_cons_zero, List.set_cons_succ, i64_w, i32_w]
                      rfl
                    try simp only [c3027b0, Bool.not_true, Bool.not_false]
                    refine pure_ (i := 22) (N := some 50) (v := undef) (a' := ?_) #[true, true, true, true, true, true, true, true, true, true, true, true, true, true, true, true, true, true, true, true, true, true, true, false, false] rfl rfl (by kernel_rfl) (fun _ _ _ h => h) (Or.inr ⟨by rfl, rfl⟩) ?_ ?_
                    rotate_left
                    · simp only [Act.put, List.setIfInBounds_toArray, List.set_cons_zero, List.set_cons_succ, i64_w, i32_w]
                      rfl
                    refine pure_ (i := 23) (N := some 51) (v := ?_) (a' := ?_) #[true, true, true, true, true, true, true, true, true, true, true, true, true, true, true, true, true, true, true, true, true, true, true, true, false] rfl rfl (by kernel_rfl) (fun _ _ _ h => h) (Or.inl ⟨by rfl, ?_⟩) ?_ ?_
                    rotate_left
                    · intro w'
                      go_simp
                      with_reducible rfl
                    rotate_left
                    · simp only [Act.put, List.setIfInBounds_toArray, List.set_cons_zero, List.set_cons_succ, i64_w, i32_w]
                      rfl
                    refine pure_ (i := 24) (N := some 2) (v := ?_) (a' := ?_) #[true, true, true, true, true, true, true, true, true, true, true, true, true, true, true, true, true, true, true, true, true, true, true, true, true] rfl rfl (by kernel_rfl) (fun _ _ _ h => h) (Or.inl ⟨by rfl, ?_⟩) ?_ ?_
                    rotate_left
                    · intro w'
                      go_simp
                      with_reducible rfl
                    rotate_left
                    · simp only [Act.put, List.setIfInBounds_toArray, List.set_cons_zero, List.set_cons_succ, i64_w, i32_w]
                      rfl
                    refine done_ (by kernel_rfl) ?_
                    replace HS : Aside0 (Sep (fps []) w [] w3021) := ⟨HS.out.sub (.cons _ .slnil)⟩
                    go_wp2_with fail
                    go_ret
                    rw [← some_eq H]
                    exact ⟨(by first | rfl | (simp [IntKind.wrap_u32]; done)), HS.out⟩
                · have H := if_no c3026 H
                  have c3026b0 : decide (0 ≤ a2940) = false := decide_eq_false c3026
                  clear c3026
                  try simp only [c3026b0, Bool.not_true, Bool.not_false]
                  refine pure_ (i := 10) (N := some 38) (v := undef) (a' := ?_) #[true, true, true, true, true, true, true, true, true, true, true, false, false, false, false, false, false, false, false, false, false, false, false, false, false] rfl rfl (by kernel_rfl) (fun _ _ _ h => h) (Or.inr ⟨by rfl, rfl⟩) ?_ ?_
                  rotate_left
                  · simp only [Act.put, List.setIfInBounds_toArray, List.set_cons_zero, List.set_cons_succ, i64_w, i32_w]
                    rfl
                  try simp only [c3026b0, Bool.not_true, Bool.not_false]
                  refine pure_ (i := 11) (N := some 39) (v := undef) (a' := ?_) #[true, true, true, true, true, true, true, true, true, true, true, true, false, false, false, false, false, false, false, false, false, false, false, false, false] rfl rfl (by kernel_rfl) (fun _ _ _ h => h) (Or.inr ⟨by rfl, rfl⟩) ?_ ?_
                  rotate_left
                  · simp only [Act.put, List.setIfInBounds_toArray, List.set_cons_zero, List.set_cons_succ, i64_w, i32_w]
                    rfl
                  try simp only [c3026b0, Bool.not_true, Bool.not_false]
                  refine pure_ (i := 12) (N := some 40) (v := undef) (a' := ?_) #[true, true, true, true, true, true, true, true, true, true, true, true, true, false, false, false, false, false, false, false, false, false, false, false, false] rfl rfl (by kernel_rfl) (fun _ _ _ h => h) (Or.inr ⟨by rfl, rfl⟩) ?_ ?_
                  rotate_left
                  · simp only [Act.put, List.setIfInBounds_toArray, List.set_cons_zero, List.set_cons_succ, i64_w, i32_w]
                    rfl
                  refine pure_ (i := 13) (N := some 41) (v := ?_) (a' := ?_) #[true, true, true, true, true, true, true, true, true, true, true, true, true, true, false, false, false, false, false, false, false, false, false, false, false] rfl rfl (by kernel_rfl) (fun _ _ _ h => h) (Or.inl ⟨by rfl, ?_⟩) ?_ ?_
                  rotate_left
                  · intro w'
                    go_simp
                    with_reducible rfl
                  rotate_left
                  · simp only [Act.put, List.setIfInBounds_toArray, List.set_cons_zero, List.set_cons_succ, i64_w, i32_w]
                    rfl
                  refine pure_ (i := 14) (N := some 42) (v := ?_) (a' := ?_) #[true, true, true, true, true, true, true, true, true, true, true, true, true, true, true, false, false, false, false, false, false, false, false, false, false] rfl rfl (by kernel_rfl) (fun _ _ _ h => h) (Or.inl ⟨by rfl, ?_⟩) ?_ ?_
                  rotate_left
                  · intro w'
                    go_simp
                    with_reducible rfl
                  rotate_left
                  · simp only [Act.put, List.setIfInBounds_toArray, List.set_cons_zero, List.set_cons_succ, i64_w, i32_w]
                    rfl
                  refine pure_ (i := 15) (N := some 43) (v := undef) (a' := ?_) #[true, true, true, true, true, true, true, true, true, true, true, true, true, true, true, true, false, false, false, false, false, false, false, false, false] rfl rfl (by kernel_rfl) (fun _ _ _ h => h) (Or.inr ⟨by rfl, rfl⟩) ?_ ?_
                  rotate_left
                  · simp only [Act.put, List.setIfInBounds_toArray, List.set_cons_zero, List.set_cons_succ, i64_w, i32_w]
                    rfl
                  refine pure_ (i := 16) (N := some 44) (v := undef) (a' := ?_) #[true, true, true, true, true, true, true, true, true, true, true, true, true, true, true, true, true, false, false, false, false, false, false, false, false] rfl rfl (by kernel_rfl) (fun _ _ _ h => h) (Or.inr ⟨by rfl, rfl⟩) ?_ ?_
                  rotate_left
                  · simp only [Act.put, List.setIfInBounds_toArray, List.set_cons_zero, List.set_cons_succ, i64_w, i32_w]
                    rfl
                  refine pure_ (i := 17) (N := some 45) (v := undef) (a' := ?_) #[true, true, true, true, true, true, true, true, true, true, true, true, true, true, true, true, true, true, false, false, false, false, false, false, false] rfl rfl (by kernel_rfl) (fun _ _ _ h => h) (Or.inr ⟨by rfl, rfl⟩) ?_ ?_
                  rotate_left
                  · simp only [Act.put, List.setIfInBounds_toArray, List.set_cons_zero, List.set_cons_succ, i64_w, i32_w]
                    rfl
                  refine pure_ (i := 18) (N := some 46) (v := undef) (a' := ?_) #[true, true, true, true, true, true, true, true, true, true, true, true, true, true, true, true, true, true, true, false, false, false, false, false, false] rfl rfl (by kernel_rfl) (fun _ _ _ h => h) (Or.inr ⟨by rfl, rfl⟩) ?_ ?_
                  rotate_left
                  · simp only [Act.put, List.setIfInBounds_toArray, List.set_cons_zero, List.set_cons_succ, i64_w, i32_w]
                    rfl
                  refine pure_ (i := 19) (N := some 47) (v := undef) (a' := ?_) #[true, true, true, true, true, true, true, true, true, true, true, true, true, true, true, true, true, true, true, true, false, false, false, false, false] rfl rfl (by kernel_rfl) (fun _ _ _ h => h) (Or.inr ⟨by rfl, rfl⟩) ?_ ?_
                  rotate_left
                  · simp only [Act.put, List.setIfInBounds_toArray, List.set_cons_zero, List.set_cons_succ, i64_w, i32_w]
                    rfl
                  refine pure_ (i := 20) (N := some 48) (v := undef) (a' := ?_) #[true, true, true, true, true, true, true, true, true, true, true, true, true, true, true, true, true, true, true, true, true, false, false, false, false] rfl rfl (by kernel_rfl) (fun _ _ _ h => h) (Or.inr ⟨by rfl, rfl⟩) ?_ ?_
                  rotate_left
                  · simp only [Act.put, List.setIfInBounds_toArray, List.set_cons_zero, List.set_cons_succ, i64_w, i32_w]
                    rfl
                  refine pure_ (i := 21) (N := some 49) (v := undef) (a' := ?_) #[true, true, true, true, true, true, true, true, true, true, true, true, true, true, true, true, true, true, true, true, true, true, false, false, false] rfl rfl (by kernel_rfl) (fun _ _ _ h => h) (Or.inr ⟨by rfl, rfl⟩) ?_ ?_
                  rotate_left
                  · simp only [Act.put, List.setIfInBounds_toArray, List.set_cons_zero, List.set_cons_succ, i64_w, i32_w]
                    rfl
                  refine pure_ (i := 22) (N := some 50) (v := undef) (a' := ?_) #[true, true, true, true, true, true, true, true, true, true, true, true, true, true, true, true, true, true, true, true, true, true, true, false, false] rfl rfl (by kernel_rfl) (fun _ _ _ h => h) (Or.inr ⟨by rfl, rfl⟩) ?_ ?_
                  rotate_left
                  · simp only [Act.put, List.setIfInBounds_toArray, List.set_cons_zero, List.set_cons_succ, i64_w, i32_w]
                    rfl
                  refine pure_ (i := 23) (N := some 51) (v := ?_) (a' := ?_) #[true, true, true, true, true, true, true, true, true, true, true, true, true, true, true, true, true, true, true, true, true, true, true, true, false] rfl rfl (by kernel_rfl) (fun _ _ _ h => h) (Or.inl ⟨by rfl, ?_⟩) ?_ ?_
                  rotate_left
                  · intro w'
                    go_simp
                    with_reducible rfl
                  rotate_left
                  · simp only [Act.put, List.setIfInBounds_toArray, List.set_cons_zero, List.set_cons_succ, i64_w, i32_w]
                    rfl
                  refine pure_ (i := 24) (N := some 2) (v := ?_) (a' := ?_) #[true, true, true, true, true, true, true, true, true, true, true, true, true, true, true, true, true, true, true, true, true, true, true, true, true] rfl rfl (by kernel_rfl) (fun _ _ _ h => h) (Or.inl ⟨by rfl, ?_⟩) ?_ ?_
                  rotate_left
                  · intro w'
                    go_simp
                    with_reducible rfl
                  rotate_left
                  · simp only [Act.put, List.setIfInBounds_toArray, List.set_cons_zero, List.set_cons_succ, i64_w, i32_w]
                    rfl
                  refine done_ (by kernel_rfl) ?_
                  replace HS : Aside0 (Sep (fps []) w [] w3021) := ⟨HS.out.sub (.cons _ .slnil)⟩
                  go_wp2_with fail
                  go_ret
                  rw [← some_eq H]
                  exact ⟨(by first | rfl | (simp [IntKind.wrap_u32]; done)), HS.out⟩
              · have H := if_no c3025 H
                have c3025b0 : b3023 = false := by simpa using c3025
                have c3025b1 : (!b3023) = true := by rw [c3025b0]; rfl
                clear c3025
                try simp only [c3025b0, Bool.not_true, Bool.not_false]
                refine pure_ (i := 5) (N := some 33) (v := undef) (a' := ?_) #[true, true, true, true, true, true, false, false, false, false, false, false, false, false, false, false, false, false, false, false, false, false, false, false, false] rfl rfl (by kernel_rfl) (fun _ _ _ h => h) (Or.inr ⟨by rfl, rfl⟩) ?_ ?_
                rotate_left
                · simp only [Act.put, List.setIfInBounds_toArray, List.set_cons_zero, List.set_cons_succ, i64_w, i32_w]
                  rfl
                try simp only [c3025b0, Bool.not_true, Bool.not_false]
                refine pure_ (i := 6) (N := some 34) (v := undef) (a' := ?_) #[true, true, true, true, true, true, true, false, false, false, false, false, false, false, false, false, false, false, false, false, false, false, false, false, false] rfl rfl (by kernel_rfl) (fun _ _ _ h => h) (Or.inr ⟨by rfl, rfl⟩) ?_ ?_
                rotate_left
                · simp only [Act.put, List.setIfInBounds_toArray, List.set_cons_zero, List.set_cons_succ, i64_w, i32_w]
                  rfl
                try simp only [c3025b0, Bool.not_true, Bool.not_false]
                refine pure_ (i := 7) (N := some 35) (v := undef) (a' := ?_) #[true, true, true, true, true, true, true, true, false, false, false, false, false, false, false, false, false, false, false, false, false, false, false, false, false] rfl rfl (by kernel_rfl) (fun _ _ _ h => h) (Or.inr ⟨by rfl, rfl⟩) ?_ ?_
                rotate_left
                · simp only [Act.put, List.setIfInBounds_toArray, List.set_cons_zero, List.set_cons_succ, i64_w, i32_w]
                  rfl
                refine pure_ (i := 8) (N := some 36) (v := ?_) (a' := ?_) #[true, true, true, true, true, true, true, true, true, false, false, false, false, false, false, false, false, false, false, false, false, false, false, false, false] rfl rfl (by kernel_rfl) (fun _ _ _ h => h) (Or.inl ⟨by rfl, ?_⟩) ?_ ?_
                rotate_left
                · intro w'
                  go_simp
                  with_reducible rfl
                rotate_left
                · simp only [Act.put, List.setIfInBounds_toArray, List.set_cons_zero, List.set_cons_succ, i64_w, i32_w]
                  rfl
                refine pure_ (i := 9) (N := some 37) (v := ?_) (a' := ?_) #[true, true, true, true, true, true, true, true, true, true, false, false, false, false, false, false, false, false, false, false, false, false, false, false, false] rfl rfl (by kernel_rfl) (fun _ _ _ h => h) (Or.inl ⟨by rfl, ?_⟩) ?_ ?_
                rotate_left
                · intro w'
                  go_simp
                  with_reducible rfl
                rotate_left
                · simp only [Act.put, List.setIfInBounds_toArray, List.set_cons_zero, List.set_cons_succ, i64_w, i32_w]
                  rfl
                refine pure_ (i := 10) (N := some 38) (v := undef) (a' := ?_) #[true, true, true, true, true, true, true, true, true, true, true, false, false, false, false, false, false, false, false, false, false, false, false, false, false] rfl rfl (by kernel_rfl) (fun _ _ _ h => h) (Or.inr ⟨by rfl, rfl⟩) ?_ ?_
                rotate_left
                · simp only [Act.put, List.setIfInBounds_toArray, List.set_cons_zero, List.set_cons_succ, i64_w, i32_w]
                  rfl
                refine pure_ (i := 11) (N := some 39) (v := undef) (a' := ?_) #[true, true, true, true, true, true, true, true, true, true, true, true, false, false, false, false, false, false, false, false, false, false, false, false, false] rfl rfl (by kernel_rfl) (fun _ _ _ h => h) (Or.inr ⟨by rfl, rfl⟩) ?_ ?_
                rotate_left
                · simp only [Act.put, List.setIfInBounds_toArray, List.set_cons_zero, List.set_cons_succ, i64_w, i32_w]
                  rfl
                refine pure_ (i := 12) (N := some 40) (v := undef) (a' := ?_) #[true, true, true, true, true, true, true, true, true, true, true, true, true, false, false, false, false, false, false, false, false, false, false, false, false] rfl rfl (by kernel_rfl) (fun _ _ _ h => h) (Or.inr ⟨by rfl, rfl⟩) ?_ ?_
                rotate_left
                · simp only [Act.put, List.setIfInBounds_toArray, List.set_cons_zero, List.set_cons_succ, i64_w, i32_w]
                  rfl
                refine pure_ (i := 13) (N := some 41) (v := ?_) (a' := ?_) #[true, true, true, true, true, true, true, true, true, true, true, true, true, true, false, false, false, false, false, false, false, false, false, false, false] rfl rfl (by kernel_rfl) (fun _ _ _ h => h) (Or.inl ⟨by rfl, ?_⟩) ?_ ?_
                rotate_left
                · intro w'
                  go_simp
                  with_reducible rfl
                rotate_left
                · simp only [Act.put, List.setIfInBounds_toArray, List.set_cons_zero, List.set_cons_succ, i64_w, i32_w]
                  rfl
                refine pure_ (i := 14) (N := some 42) (v := ?_) (a' := ?_) #[true, true, true, true, true, true, true, true, true, true, true, true, true, true, true, false, false, false, false, false, false, false, false, false, false] rfl rfl (by kernel_rfl) (fun _ _ _ h => h) (Or.inl ⟨by rfl, ?_⟩) ?_ ?_
                rotate_left
                · intro w'
                  go_simp
                  with_reducible rfl
                rotate_left
                · simp only [Act.put, List.setIfInBounds_toArray, List.set_cons_zero, List.set_cons_succ, i64_w, i32_w]
                  rfl
                refine pure_ (i := 15) (N := some 43) (v := undef) (a' := ?_) #[true, true, true, true, true, true, true, true, true, true, true, true, true, true, true, true, false, false, false, false, false, false, false, false, false] rfl rfl (by kernel_rfl) (fun _ _ _ h => h) (Or.inr ⟨by rfl, rfl⟩) ?_ ?_
                rotate_left
                · simp only [Act.put, List.setIfInBounds_toArray, List.set_cons_zero, List.set_cons_succ, i64_w, i32_w]
                  rfl
                refine pure_ (i := 16) (N := some 44) (v := undef) (a' := ?_) #[true, true, true, true, true, true, true, true, true, true, true, true, true, true, true, true, true, false, false, false, false, false, false, false, false] rfl rfl (by kernel_rfl) (fun _ _ _ h => h) (Or.inr ⟨by rfl, rfl⟩) ?_ ?_
                rotate_left
                · simp only [Act.put, List.setIfInBounds_toArray, List.set_cons_zero, List.set_cons_succ, i64_w, i32_w]
                  rfl
                refine pure_ (i := 17) (N := some 45) (v := undef) (a' := ?_) #[true, true, true, true, true, true, true, true, true, true, true, true, true, true, true, true, true, true, false, false, false, false, false, false, false] rfl rfl (by kernel_rfl) (fun _ _ _ h => h) (Or.inr ⟨by rfl, rfl⟩) ?_ ?_
                rotate_left
                · simp only [Act.put, List.setIfInBounds_toArray, List.set_cons_zero, List.set_cons_succ, i64_w, i32_w]
                  rfl
                refine pure_ (i := 18) (N := some 46) (v := undef) (a' := ?_) #[true, true, true, true, true, true, true, true, true, true, true, true, true, true, true, true, true, true, true, false, false, false, false, false, false] rfl rfl (by kernel_rfl) (fun _ _ _ h => h) (Or.inr ⟨by rfl, rfl⟩) ?_ ?_
                rotate_left
                · simp only [Act.put, List.setIfInBounds_toArray, List.set_cons_zero, List.set_cons_succ, i64_w, i32_w]
                  rfl
                refine pure_ (i := 19) (N := some 47) (v := undef) (a' := ?_) #[true, true, true, true, true, true, true, true, true, true, true, true, true, true, true, true, true, true, true, true, false, false, false, false, false] rfl rfl (by kernel_rfl) (fun _ _ _ h => h) (Or.inr ⟨by rfl, rfl⟩) ?_ ?_
                rotate_left
                · simp only [Act.put, List.setIfInBounds_toArray, List.set_cons_zero, List.set_cons_succ, i64_w, i32_w]
                  rfl
                refine pure_ (i := 20) (N := some 48) (v := undef) (a' := ?_) #[true, true, true, true, true, true, true, true, true, true, true, true, true, true, true, true, true, true, true, true, true, false, false, false, false] rfl rfl (by kernel_rfl) (fun _ _ _ h => h) (Or.inr ⟨by rfl, rfl⟩) ?_ ?_
                rotate_left
                · simp only [Act.put, List.setIfInBounds_toArray, List.set_cons_zero, List.set_cons_succ, i64_w, i32_w]
                  rfl
                refine pure_ (i := 21) (N := some 49) (v := undef) (a' := ?_) #[true, true, true, true, true, true, true, true, true, true, true, true, true, true, true, true, true, true, true, true, true, true, false, false, false] rfl rfl (by kernel_rfl) (fun _ _ _ h => h) (Or.inr ⟨by rfl, rfl⟩) ?_ ?_
                rotate_left
                · simp only [Act.put, List.setIfInBounds_toArray, List.set_cons_zero, List.set_cons_succ, i64_w, i32_w]
                  rfl
                refine pure_ (i := 22) (N := some 50) (v := undef) (a' := ?_) #[true, true, true, true, true, true, true, true, true, true, true, true, true, true, true, true, true, true, true, true, true, true, true, false, false] rfl rfl (by kernel_rfl) (fun _ _ _ h => h) (Or.inr ⟨by rfl, rfl⟩) ?_ ?_
                rotate_left
                · simp only [Act.put, List.setIfInBounds_toArray, List.set_cons_zero, List.set_cons_succ, i64_w, i32_w]
                  rfl
                refine pure_ (i := 23) (N := some 51) (v := ?_) (a' := ?_) #[true, true, true, true, true, true, true, true, true, true, true, true, true, true, true, true, true, true, true, true, true, true, true, true, false] rfl rfl (by kernel_rfl) (fun _ _ _ h => h) (Or.inl ⟨by rfl, ?_⟩) ?_ ?_
                rotate_left
                · intro w'
                  go_simp
                  with_reducible rfl
                rotate_left
                · simp only [Act.put, List.setIfInBounds_toArray, List.set_cons_zero, List.set_cons_succ, i64_w, i32_w]
                  rfl
                refine pure_ (i := 24) (N := some 2) (v := ?_) (a' := ?_) #[true, true, true, true, true, true, true, true, true, true, true, true, true, true, true, true, true, true, true, true, true, true, true, true, true] rfl rfl (by kernel_rfl) (fun _ _ _ h => h) (Or.inl ⟨by rfl, ?_⟩) ?_ ?_
                rotate_left
                · intro w'
                  go_simp
                  with_reducible rfl
                rotate_left
                · simp only [Act.put, List.setIfInBounds_toArray, List.set_cons_zero, List.set_cons_succ, i64_w, i32_w]
                  rfl
                refine done_ (by kernel_rfl) ?_
                replace HS : Aside0 (Sep (fps []) w [] w3021) := ⟨HS.out.sub (.cons _ .slnil)⟩
                go_wp2_with fail
                go_ret
                rw [← some_eq H]
                exact ⟨(by first | rfl | (simp [IntKind.wrap_u32]; done)), HS.out⟩
            · have H := if_no c3016 H
              have c3016b0 : (a2934 == 0) = false := beq_eq_false_iff_ne.mpr c3016
              have c3016b1 : (a2934 != 0) = true := bne_iff_ne.mpr c3016
              clear c3016
              by_cases c3029 : a2934 = 3
              · have H := if_yes c3029 H
                have c3029b0 : (a2934 == 3) = true := beq_iff_eq.mpr c3029
                have c3029b1 : (a2934 != 3) = false := bne_eq_false_iff_eq.mpr c3029
                clear c3029
                have hc3011 : w3002.cell? ⟨g2941, 0, none⟩ = some (.int .i64 a2934) := blk_cellv (HS.out.at0) 0 rfl
                go_wp2_with fail
                clear hc3011
                refine start_ (n := 25) (S := (fun w' => w'.cell? ⟨g2941, 0, none⟩ = some (.int .i64 a2934) ∧ w'.cell? ⟨g2941, 1, none⟩ = some (.int .i64 a2935) ∧ w'.cell? ⟨g2941, 2, none⟩ = some (.int .i64 a2936) ∧ w'.cell? ⟨g2941, 3, none⟩ = some (.int .i64 a2937) ∧ w'.cell? ⟨g2941, 4, none⟩ = some (.int .i64 a2938) ∧ w'.cell? ⟨g2941, 5, none⟩ = some (.int .i64 a2939) ∧ w'.cell? ⟨g2941, 6, none⟩ = some (.int .i64 a2940) ∧ w'.cell? ⟨0, 0, none⟩ = some (.int .i64 0) ∧ w'.cell? ⟨0, 1, none⟩ = some (.int .i64 0) ∧ w'.cell? ⟨0, 2, none⟩ = some (.int .i64 0) ∧ w'.cell? ⟨0, 3, none⟩ = some (.int .i64 0) ∧ w'.cell? ⟨0, 4, none⟩ = some (.int .i64 0))) (ds := []) #[false, false, false, false, false, false, false, false, false, false, false, false, false, false, false, false, false, false, false, false, false, false, false, false, false] (by kernel_rfl) rfl rfl (⟨blk_cellv ((HS.out.drew).at0) 0 rfl, blk_cellv ((HS.out.drew).at0) 1 rfl, blk_cellv ((HS.out.drew).at0) 2 rfl, blk_cellv ((HS.out.drew).at0) 3 rfl, blk_cellv ((HS.out.drew).at0) 4 rfl, blk_cellv ((HS.out.drew).at0) 5 rfl, blk_cellv ((HS.out.drew).at0) 6 rfl, Gl.cell HGl0.out (HS.out.drew).fr 0 rfl, Gl.cell HGl0.out (HS.out.drew).fr 1 rfl, Gl.cell HGl0.out (HS.out.drew).fr 2 rfl, Gl.cell HGl0.out (HS.out.drew).fr 3 rfl, Gl.cell HGl0.out (HS.out.drew).fr 4 rfl⟩) (fun hHeld => ?_)
                have HS_ := Aside0.mk HS.out.drew
                clear HS
                generalize World.drew _ = w3031 at HS_ hHeld ⊢
                have HS := HS_
                clear HS_
                refine take_ (i := 0) (N := some 28) (v := ?_) (a' := ?_) #[true, false, false, false, false, false, false, false, false, false, false, false, false, false, false, false, false, false, false, false, false, false, false, false, false] rfl rfl (by kernel_rfl) (fun _ _ _ h => h) (Or.inl ⟨by rfl, ?_⟩) hHeld ?_ ?_
                rotate_left
                · rintro w' hS'
                  obtain ⟨s0, s1, s2, s3, s4, s5, s6, s7, s8, s9, s10, s11⟩ := hS'
                  go_simp
                  with_reducible rfl
                rotate_left
                · simp only [Act.put, List.setIfInBounds_toArray, List.set_cons_zero, List.set_cons_succ, i64_w, i32_w]
                  rfl
                refine take_ (i := 2) (N := some 30) (v := ?_) (a' := ?_) #[true, false, true, false, false, false, false, false, false, false, false, false, false, false, false, false, false, false, false, false, false, false, false, false, false] rfl rfl (by kernel_rfl) (fun _ _ _ h => h) (Or.inl ⟨by rfl, ?_⟩) hHeld ?_ ?_
                rotate_left
                · rintro w' hS'
                  obtain ⟨s0, s1, s2, s3, s4, s5, s6, s7, s8, s9, s10, s11⟩ := hS'
                  go_simp
                  with_reducible rfl
                rotate_left
                · simp only [Act.put, List.setIfInBounds_toArray, List.set_cons_zero, List.set_cons_succ, i64_w, i32_w]
                  rfl
                refine one_ (i := 1) (N := some 29) #[true, true, true, false, false, false, false, false, false, false, false, false, false, false, false, false, false, false, false, false, false, false, false, false, false] rfl rfl (by kernel_rfl) (by decide) (fun K hK => ?_)
                obtain ⟨t3019, HA3032, H⟩ := bind_some H
                refine goes_ Tryd.func68 (by kernel_rfl) rfl #[.agg #[.int .i64 a2934, .int .i64 a2935, .int .i64 a2936, .int .i64 a2937, .int .i64 a2938, .int .i64 a2939, .int .i64 a2940]] (by rfl) rfl rfl (by (try simp only [List.map_toArray, List.map_cons, List.map_nil]); first | done | rfl) ?_
                refine (tag_marks.calls a2934 a2935 a2936 a2937 a2938 a2939 a2940 t3019 _ ⟨HGl0.out.pass (l := []) HS.out⟩ ⟨Sep.start _⟩ HA3032).mono ?_
                rintro e_ w3033 ⟨rfl, hS⟩
                replace HS : Aside0 (Sep (fps []) w [b17 g2941 a2934 a2935 a2936 a2937 a2938 a2939 a2940] w3033) := ⟨HS.out.call hS⟩
                clear hS
                refine ⟨_, rfl, ?_⟩
                refine hK.out _ _ (⟨blk_cellv (HS.out.at0) 0 rfl, blk_cellv (HS.out.at0) 1 rfl, blk_cellv (HS.out.at0) 2 rfl, blk_cellv (HS.out.at0) 3 rfl, blk_cellv (HS.out.at0) 4 rfl, blk_cellv (HS.out.at0) 5 rfl, blk_cellv (HS.out.at0) 6 rfl, Gl.cell HGl0.out HS.out.fr 0 rfl, Gl.cell HGl0.out HS.out.fr 1 rfl, Gl.cell HGl0.out HS.out.fr 2 rfl, Gl.cell HGl0.out HS.out.fr 3 rfl, Gl.cell HGl0.out HS.out.fr 4 rfl⟩) (fun hHeld => ?_)
                clear hK K
                refine norm_ (a' := ?_) ?_ ?_
                rotate_left
                · show Act.put _ (some 29) _ = _
                  simp only [Act.put, List.setIfInBounds_toArray, List.set_cons_zero, List.set_cons_succ, i64_w, i32_w]
                  rfl
                obtain ⟨b3023, HA3035, H⟩ := bind_some H
                have eb3034 : ∀ w, (Op.equalIn 10000 108 (.agg #[.int .i64 t3019.1, .int .i64 t3019.2.1, .int .i64 t3019.2.2.1, .int .i64 t3019.2.2.2.1, .int .i64 t3019.2.2.2.2]) (.agg #[.int .i64 0, .int .i64 0, .int .i64 0, .int .i64 0, .int .i64 0])).run Tryd.prog w = .ok b3023 w := some_eq HA3035 ▸ run_eq_ints 9998 108 3 5 .i64 [t3019.1, t3019.2.1, t3019.2.2.1, t3019.2.2.2.1, t3019.2.2.2.2] [0, 0, 0, 0, 0] Tryd.underlying108 (by kernel_rfl) (by kernel_rfl) Tryd.underlying3 (fun _ => by kernel_rfl) rfl rfl
                refine pure_ (i := 3) (N := some 31) (v := ?_) (a' := ?_) #[true, true, true, true, false, false, false, false, false, false, false, false, false, false, false, false, false, false, false, false, false, false, false, false, false] rfl rfl (by kernel_rfl) (fun _ _ _ h => h) (Or.inl ⟨by rfl, ?_⟩) ?_ ?_
                rotate_left
                · intro w'
                  go_simp
                  with_reducible rfl
                rotate_left
                · simp only [Act.put, List.setIfInBounds_toArray, List.set_cons_zero, List.set_cons_succ, i64_w, i32_w]
                  rfl
                refine pure_ (i := 4) (N := some 32) (v := ?_) (a' := ?_) #[true, true, true, true, true, false, false, false, false, false, false, false, false, false, false, false, false, false, false, false, false, false, false, false, false] rfl rfl (by kernel_rfl) (fun _ _ _ h => h) (Or.inl ⟨by rfl, ?_⟩) ?_ ?_
                rotate_left
                · intro w'
                  go_simp
                  with_reducible rfl
                rotate_left
                · simp only [Act.put, List.setIfInBounds_toArray, List.set_cons_zero, List.set_cons_succ, i64_w, i32_w]
                  rfl
                by_cases c3036 : b3023 = true
                · have H := if_yes c3036 H
                  have c3036b0 : b3023 = true := c3036
                  have c3036b1 : (!b3023) = false := by rw [c3036b0]; rfl
                  clear c3036
                  try simp only [c3036b0, Bool.not_true, Bool.not_false]
                  refine pure_ (i := 5) (N := some 33) (v := ?_) (a' := ?_) #[true, true, true, true, true, true, false, false, false, false, false, false, false, false, false, false, false, false, false, false, false, false, false, false, false] rfl rfl (by kernel_rfl) (fun _ _ _ h => h) (Or.inl ⟨by rfl, ?_⟩) ?_ ?_
                  rotate_left
                  · intro w'
                    go_simp
                    with_reducible rfl
                  rotate_left
                  · simp only [Act.put, List.setIfInBounds_toArray, List.set_cons_zero, List.set_cons_succ, i64_w, i32_w]
                    rfl
                  try simp only [c3036b0, Bool.not_true, Bool.not_false]
                  refine take_ (i := 6) (N := some 34) (v := ?_) (a' := ?_) #[true, true, true, true, true, true, true, false, false, false, false, false, false, false, false, false, false, false, false, false, false, false, false, false, false] rfl rfl (by kernel_rfl) (fun _ _ _ h => h) (Or.inl ⟨by rfl, ?_⟩) hHeld ?_ ?_
                  rotate_left
                  · rintro w' hS'
                    obtain ⟨s0, s1, s2, s3, s4, s5, s6, s7, s8, s9, s10, s11⟩ := hS'
                    go_simp
                    with_reducible rfl
                  rotate_left
                  · simp only [Act.put, List.setIfInBounds_toArray, List.set_cons_zero, List.set_cons_succ, i64_w, i32_w]
                    rfl
                  try simp only [c3036b0, Bool.not_true, Bool.not_false]
                  refine pure_ (i := 7) (N := some 35) (v := ?_) (a' := ?_) #[true, true, true, true, true, true, true, true, false, false, false, false, false, false, false, false, false, false, false, false, false, false, false, false, false] rfl rfl (by kernel_rfl) (fun _ _ _ h => h) (Or.inl ⟨by rfl, ?_⟩) ?_ ?_
                  rotate_left
                  · intro w'
                    go_simp
                    with_reducible rfl
                  rotate_left
                  · simp only [Act.put, List.setIfInBounds_toArray, List.set_cons_zero, List.set_cons_succ, i64_w, i32_w]
                    rfl
                  refine pure_ (i := 8) (N := some 36) (v := ?_) (a' := ?_) #[true, true, true, true, true, true, true, true, true, false, false, false, false, false, false, false, false, false, false, false, false, false, false, false, false] rfl rfl (by kernel_rfl) (fun _ _ _ h => h) (Or.inl ⟨by rfl, ?_⟩) ?_ ?_
                  rotate_left
                  · intro w'
                    go_simp
                    with_reducible rfl
                  rotate_left
                  · simp only [Act.put, List.setIfInBounds_toArray, List.set_cons_zero, List.set_cons_succ, i64_w, i32_w]
                    rfl
                  refine pure_ (i := 9) (N := some 37) (v := ?_) (a' := ?_) #[true, true, true, true, true, true, true, true, true, true, false, false, false, false, false, false, false, false, false, false, false, false, false, false, false] rfl rfl (by kernel_rfl) (fun _ _ _ h => h) (Or.inl ⟨by rfl, ?_⟩) ?_ ?_
                  rotate_left
                  · intro w'
                    go_simp
                    with_reducible rfl
                  rotate_left
                  · simp only [Act.put, List.setIfInBounds_toArray, List.set_cons_zero, List.set_cons_succ, i64_w, i32_w]
                    rfl
                  by_cases c3037 : a2940 ≥ 0
                  · have H := if_yes c3037 H
                    have c3037b0 : decide (0 ≤ a2940) = true := decide_eq_true c3037
                    clear c3037
                    try simp only [c3037b0, Bool.not_true, Bool.not_false]
                    refine pure_ (i := 10) (N := some 38) (v := ?_) (a' := ?_) #[true, true, true, true, true, true, true, true, true, true, true, false, false, false, false, false, false, false, false, false, false, false, false, false, false] rfl rfl (by kernel_rfl) (fun _ _ _ h => h) (Or.inl ⟨by rfl, ?_⟩) ?_ ?_
                    rotate_left
                    · intro w'
                      go_simp
                      with_reducible rfl
                    rotate_left
                    · simp only [Act.put, List.setIfInBounds_toArray, List.set_cons_zero, List.set_cons_succ, i64_w, i32_w]
                      rfl
                    try simp only [c3037b0, Bool.not_true, Bool.not_false]
                    refine take_ (i := 11) (N := some 39) (v := ?_) (a' := ?_) #[true, true, true, true, true, true, true, true, true, true, true, true, false, false, false, false, false, false, false, false, false, false, false, false, false] rfl rfl (by kernel_rfl) (fun _ _ _ h => h) (Or.inl ⟨by rfl, ?_⟩) hHeld ?_ ?_
                    rotate_left
                    · rintro w' hS'
                      obtain ⟨s0, s1, s2, s3, s4, s5, s6, s7, s8, s9, s10, s11⟩ := hS'
                      go_simp
                      with_reducible rfl
                    rotate_left
                    · simp only [Act.put, List.setIfInBounds_toArray, List.set_cons_zero, List.set_cons_succ, i64_w, i32_w]
                      rfl
                    try simp only [c3037b0, Bool.not_true, Bool.not_false]
                    refine pure_ (i := 12) (N := some 40) (v := ?_) (a' := ?_) #[true, true, true, true, true, true, true, true, true, true, true, true, true, false, false, false, false, false, false, false, false, false, false, false, false] rfl rfl (by kernel_rfl) (fun _ _ _ h => h) (Or.inl ⟨by rfl, ?_⟩) ?_ ?_
                    rotate_left
                    · intro w'
                      go_simp
                      with_reducible rfl
                    rotate_left
                    · simp only [Act.put, List.setIfInBounds_toArray, List.set_cons_zero, List.set_cons_succ, i64_w, i32_w]
                      rfl
                    refine pure_ (i := 13) (N := some 41) (v := ?_) (a' := ?_) #[true, true, true, true, true, true, true, true, true, true, true, true, true, true, false, false, false, false, false, false, false, false, false, false, false] rfl rfl (by kernel_rfl) (fun _ _ _ h => h) (Or.inl ⟨by rfl, ?_⟩) ?_ ?_
                    rotate_left
                    · intro w'
                      go_simp
                      with_reducible rfl
                    rotate_left
                    · simp only [Act.put, List.setIfInBounds_toArray, List.set_cons_zero, List.set_cons_succ, i64_w, i32_w]
                      rfl
                    refine pure_ (i := 14) (N := some 42) (v := ?_) (a' := ?_) #[true, true, true, true, true, true, true, true, true, true, true, true, true, true, true, false, false, false, false, false, false, false, false, false, false] rfl rfl (by kernel_rfl) (fun _ _ _ h => h) (Or.inl ⟨by rfl, ?_⟩) ?_ ?_
                    rotate_left
                    · intro w'
                      go_simp
                      with_reducible rfl
                    rotate_left
                    · simp only [Act.put, List.setIfInBounds_toArray, List.set_cons_zero, List.set_cons_succ, i64_w, i32_w]
                      rfl
                    by_cases c3038 : a2940 < 1048576
                    · have H := if_yes c3038 H
                      have c3038b0 : decide (a2940 < 1048576) = true := decide_eq_true c3038
                      clear c3038
                      try simp only [c3038b0, Bool.not_true, Bool.not_false]
                      refine pure_ (i := 15) (N := some 43) (v := ?_) (a' := ?_) #[true, true, true, true, true, true, true, true, true, true, true, true, true, true, true, true, false, false, false, false, false, false, false, false, false] rfl rfl (by kernel_rfl) (fun _ _ _ h => h) (Or.inl ⟨by rfl, ?_⟩) ?_ ?_
                      rotate_left
                      · intro w'
                        go_simp
                        with_reducible rfl
                      rotate_left
                      · simp only [Act.put, List.setIfInBounds_toArray, List.set_cons_zero, List.set_cons_succ, i64_w, i32_w]
                        rfl
                      try simp only [c3038b0, Bool.not_true, Bool.not_false]
                      refine take_ (i := 16) (N := some 44) (v := ?_) (a' := ?_) #[true, true, true, true, true, true, true, true, true, true, true, true, true, true, true, true, true, false, false, false, false, false, false, false, false] rfl rfl (by kernel_rfl) (fun _ _ _ h => h) (Or.inl ⟨by rfl, ?_⟩) hHeld ?_ ?_
                      rotate_left
                      · rintro w' hS'
                        obtain ⟨s0, s1, s2, s3, s4, s5, s6, s7, s8, s9, s10, s11⟩ := hS'
                        go_simp
                        with_reducible rfl
                      rotate_left
                      · simp only [Act.put, List.setIfInBounds_toArray, List.set_cons_zero, List.set_cons_succ, i64_w, i32_w]
                        rfl
                      try simp only [c3038b0, Bool.not_true, Bool.not_false]
                      refine pure_ (i := 17) (N := some 45) (v := ?_) (a' := ?_) #[true, true, true, true, true, true, true, true, true, true, true, true, true, true, true, true, true, true, false, false, false, false, false, false, false] rfl rfl (by kernel_rfl) (fun _ _ _ h => h) (Or.inl ⟨by rfl, ?_⟩) ?_ ?_
                      rotate_left
                      · intro w'
                        go_simp
                        with_reducible rfl
                      rotate_left
                      · simp only [Act.put, List.setIfInBounds_toArray, List.set_cons_zero, List.set_cons_succ, i64_w, i32_w]
                        rfl
                      try simp only [c3038b0, Bool.not_true, Bool.not_false]
                      refine pure_ (i := 18) (N := some 46) (v := ?_) (a' := ?_) #[true, true, true, true, true, true, true, true, true, true, true, true, true, true, true, true, true, true, true, false, false, false, false, false, false] rfl rfl (by kernel_rfl) (fun _ _ _ h => h) (Or.inl ⟨by rfl, ?_⟩) ?_ ?_
                      rotate_left
                      · intro w'
                        go_simp
                        with_reducible rfl
                      rotate_left
                      · simp only [Act.put, List.setIfInBounds_toArray, List.set_cons_zero, List.set_cons_succ, i64_w, i32_w]
                        rfl
                      try simp only [c3029b0, Bool.not_true, Bool.not_false]
                      refine pure_ (i := 19) (N := some 47) (v := undef) (a' := ?_) #[true, true, true, true, true, true, true, true, true, true, true, true, true, true, true, true, true, true, true, true, false, false, false, false, false] rfl rfl (by kernel_rfl) (fun _ _ _ h => h) (Or.inr ⟨by rfl, rfl⟩) ?_ ?_
                      rotate_left
                      · simp only [Act.put, List.setIfInBounds_toArray, List.set_cons_zero, List.set_cons_succ, i64_w, i32_w]
                        rfl
                      try simp only [c3029b0, Bool.not_true, Bool.not_false]
                      refine pure_ (i := 20) (N := some 48) (v := undef) (a' := ?_) #[true, true, true, true, true, true, true, true, true, true, true, true, true, true, true, true, true, true, true, true, true, false, false, false, false] rfl rfl (by kernel_rfl) (fun _ _ _ h => h) (Or.inr ⟨by rfl, rfl⟩) ?_ ?_
                      rotate_left
                      · simp only [Act.put, List.setIfInBounds_toArray, List.set_cons_zero, List.set_cons_succ, i64_w, i32_w]
                        rfl
                      try simp only [c3029b0, Bool.not_true, Bool.not_false]
                      refine pure_ (i := 21) (N := some 49) (v := undef) (a' := ?_) #[true, true, true, true, true, true, true, true, true, true, true, true, true, true, true, true, true, true, true, true, true, true, false, false, false] rfl rfl (by kernel_rfl) (fun _ _ _ h => h) (Or.inr ⟨by rfl, rfl⟩) ?_ ?_
                      rotate_left
                      · simp only [Act.put, List.setIfInBounds_toArray, List.set_cons_zero, List.set_cons_succ, i64_w, i32_w]
                        rfl
                      try simp only [c3038b0, Bool.not_true, Bool.not_false]
                      refine pure_ (i := 22) (N := some 50) (v := ?_) (a' := ?_) #[true, true, true, true, true, true, true, true, true, true, true, true, true, true, true, true, true, true, true, true, true, true, true, false, false] rfl rfl (by kernel_rfl) (fun _ _ _ h => h) (Or.inl ⟨by rfl, ?_⟩) ?_ ?_
                      rotate_left
                      · intro w'
                        go_simp
                        with_reducible rfl
                      rotate_left
                      · simp only [Act.put, List.setIfInBounds_toArray, List.set_cons_zero, List.set_cons_succ, i64_w, i32_w]
                        rfl
                      refine pure_ (i := 23) (N := some 51) (v := ?_) (a' := ?_) #[true, true, true, true, true, true, true, true, true, true, true, true, true, true, true, true, true, true, true, true, true, true, true, true, false] rfl rfl (by kernel_rfl) (fun _ _ _ h => h) (Or.inl ⟨by rfl, ?_⟩) ?_ ?_
                      rotate_left
                      · intro w'
                        go_simp
                        with_reducible rfl
                      rotate_left
                      · simp only [Act.put, List.setIfInBounds_toArray, List.set_cons_zero, List.set_cons_succ, i64_w, i32_w]
                        rfl
                      refine pure_ (i := 24) (N := some 2) (v := ?_) (a' := ?_) #[true, true, true, true, true, true, true, true, true, true, true, true, true, true, true, true, true, true, true, true, true, true, true, true, true] rfl rfl (by kernel_rfl) (fun _ _ _ h => h) (Or.inl ⟨by rfl, ?_⟩) ?_ ?_
                      rotate_left
                      · intro w'
                        go_simp
                        with_reducible rfl
                      rotate_left
                      · simp only [Act.put, List.setIfInBounds_toArray, List.set_cons_zero, List.set_cons_succ, i64_w, i32_w]
                        rfl
                      refine done_ (by kernel_rfl) ?_
                      replace HS : Aside0 (Sep (fps []) w [] w3033) := ⟨HS.out.sub (.cons _ .slnil)⟩
                      go_wp2_with fail
                      go_ret
                      rw [← some_eq H]
                      exact ⟨(by first | rfl | (simp [IntKind.wrap_u32]; done)), HS.out⟩
                    · have H := if_no c3038 H
                      have c3038b0 : decide (a2940 < 1048576) = false := decide_eq_false c3038
                      clear c3038
                      try simp only [c3038b0, Bool.not_true, Bool.not_false]
                      refine pure_ (i := 15) (N := some 43) (v := undef) (a' := ?_) #[true, true, true, true, true, true, true, true, true, true, true, true, true, true, true, true, false, false, false, false, false, false, false, false, false] rfl rfl (by kernel_rfl) (fun _ _ _ h => h) (Or.inr ⟨by rfl, rfl⟩) ?_ ?_
                      rotate_left
                      · simp only [Act.put, List.setIfInBounds_toArray, List.set_cons_zero, List.set_cons_succ, i64_w, i32_w]
                        rfl
                      try simp only [c3038b0, Bool.not_true, Bool.not_false]
                      refine pure_ (i := 16) (N := some 44) (v := undef) (a' := ?_) #[true, true, true, true, true, true, true, true, true, true, true, true, true, true, true, true, true, false, false, false, false, false, false, false, false] rfl rfl (by kernel_rfl) (fun _ _ _ h => h) (Or.inr ⟨by rfl, rfl⟩) ?_ ?_
                      rotate_left
                      · simp only [Act.put, List.setIfInBounds_toArray, List.set_cons_zero, List.set_cons_succ, i64_w, i32_w]
                        rfl
                      try simp only [c3038b0, Bool.not_true, Bool.not_false]
                      refine pure_ (i := 17) (N := some 45) (v := undef) (a' := ?_) #[true, true, true, true, true, true, true, true, true, true, true, true, true, true, true, true, true, true, false, false, false, false, false, false, false] rfl rfl (by kernel_rfl) (fun _ _ _ h => h) (Or.inr ⟨by rfl, rfl⟩) ?_ ?_
                      rotate_left
                      · simp only [Act.put, List.setIfInBounds_toArray, List.set_cons_zero, List.set_cons_succ, i64_w, i32_w]
                        rfl
                      try simp only [c3038b0, Bool.not_true, Bool.not_false]
                      refine pure_ (i := 18) (N := some 46) (v := undef) (a' := ?_) #[true, true, true, true, true, true, true, true, true, true, true, true, true, true, true, true, true, true, true, false, false, false, false, false, false] rfl rfl (by kernel_rfl) (fun _ _ _ h => h) (Or.inr ⟨by rfl, rfl⟩) ?_ ?_
                      rotate_left
                      · simp only [Act.put, List.setIfInBounds_toArray, List.set_cons_zero, List.set_cons_succ, i64_w, i32_w]
                        rfl
                      refine pure_ (i := 19) (N := some 47) (v := undef) (a' := ?_) #[true, true, true, true, true, true, true, true, true, true, true, true, true, true, true, true, true, true, true, true, false, false, false, false, false] rfl rfl (by kernel_rfl) (fun _ _ _ h => h) (Or.inr ⟨by rfl, rfl⟩) ?_ ?_
                      rotate_left
                      · simp only [Act.put, List.setIfInBounds_toArray, List.set_cons_zero, List.set_cons_succ, i64_w, i32_w]
                        rfl
                      refine pure_ (i := 20) (N := some 48) (v := undef) (a' := ?_) #[true, true, true, true, true, true, true, true, true, true, true, true, true, true, true, true, true, true, true, true, true, false, false, false, false] rfl rfl (by kernel_rfl) (fun _ _ _ h => h) (Or.inr ⟨by rfl, rfl⟩) ?_ ?_
                      rotate_left
                      · simp only [Act.put, List.setIfInBounds_toArray, List.set_cons_zero, List.set_cons_succ, i64_w, i32_w]
                        rfl
                      refine pure_ (i := 21) (N := some 49) (v := undef) (a' := ?_) #[true, true, true, true, true, true, true, true, true, true, true, true, true, true, true, true, true, true, true, true, true, true, false, false, false] rfl rfl (by kernel_rfl) (fun _ _ _ h => h) (Or.inr ⟨by rfl, rfl⟩) ?_ ?_
                      rotate_left
                      · simp only [Act.put, List.setIfInBounds_toArray, List.set_cons_zero, List.set_cons_succ, i64_w, i32_w]
                        rfl
                      try simp only [c3038b0, Bool.not_true, Bool.not_false]
                      refine pure_ (i := 22) (N := some 50) (v := undef) (a' := ?_) #[true, true, true, true, true, true, true, true, true, true, true, true, true, true, true, true, true, true, true, true, true, true, true, false, false] rfl rfl (by kernel_rfl) (fun _ _ _ h => h) (Or.inr ⟨by rfl, rfl⟩) ?_ ?_
                      rotate_left
                      · simp only [Act.put, List.setIfInBounds_toArray, List.set_cons_zero, List.set_cons_succ, i64_w, i32_w]
                        rfl
                      refine pure_ (i := 23) (N := some 51) (v := ?_) (a' := ?_) #[true, true, true, true, true, true, true, true, true, true, true, true, true, true, true, true, true, true, true, true, true, true, true, true, false] rfl rfl (by kernel_rfl) (fun _ _ _ h => h) (Or.inl ⟨by rfl, ?_⟩) ?_ ?_
                      rotate_left
                      · intro w'
                        go_simp
                        with_reducible rfl
                      rotate_left
                      · simp only [Act.put, List.setIfInBounds_toArray, List.set_cons_zero, List.set_cons_succ, i64_w, i32_w]
                        rfl
                      refine pure_ (i := 24) (N := some 2) (v := ?_) (a' := ?_) #[true, true, true, true, true, true, true, true, true, true, true, true, true, true, true, true, true, true, true, true, true, true, true, true, true] rfl rfl (by kernel_rfl) (fun _ _ _ h => h) (Or.inl ⟨by rfl, ?_⟩) ?_ ?_
                      rotate_left
                      · intro w'
                        go_simp
                        with_reducible rfl
                      rotate_left
                      · simp only [Act.put, List.setIfInBounds_toArray, List.set_cons_zero, List.set_cons_succ, i64_w, i32_w]
                        rfl
                      refine done_ (by kernel_rfl) ?_
                      replace HS : Aside0 (Sep (fps []) w [] w3033) := ⟨HS.out.sub (.cons _ .slnil)⟩
                      go_wp2_with fail
                      go_ret
                      rw [← some_eq H]
                      exact ⟨(by first | rfl | (simp [IntKind.wrap_u32]; done)), HS.out⟩
                  · have H := if_no c3037 H
                    have c3037b0 : decide (0 ≤ a2940) = false := decide_eq_false c3037
                    clear c3037
                    try simp only [c3037b0, Bool.not_true, Bool.not_false]
                    refine pure_ (i := 10) (N := some 38) (v := undef) (a' := ?_) #[true, true, true, true, true, true, true, true, true, true, true, false, false, false, false, false, false, false, false, false, false, false, false, false, false] rfl rfl (by kernel_rfl) (fun _ _ _ h => h) (Or.inr ⟨by rfl, rfl⟩) ?_ ?_
                    rotate_left
                    · simp only [Act.put, List.setIfInBounds_toArray, List.set_cons_zero, List.set_cons_succ, i64_w, i32_w]
                      rfl
                    try simp only [c3037b0, Bool.not_true, Bool.not_false]
                    refine pure_ (i := 11) (N := some 39) (v := undef) (a' := ?_) #[true, true, true, true, true, true, true, true, true, true, true, true, false, false, false, false, false, false, false, false, false, false, false, false, false] rfl rfl (by kernel_rfl) (fun _ _ _ h => h) (Or.inr ⟨by rfl, rfl⟩) ?_ ?_
                    rotate_left
                    · simp only [Act.put, List.setIfInBounds_toArray, List.set_cons_zero, List.set_cons_succ, i64_w, i32_w]
                      rfl
                    try simp only [c3037b0, Bool.not_true, Bool.not_false]
                    refine pure_ (i := 12) (N := some 40) (v := undef) (a' := ?_) #[true, true, true, true, true, true, true, true, true, true, true, true, true, false, false, false, false, false, false, false, false, false, false, false, false] rfl rfl (by kernel_rfl) (fun _ _ _ h => h) (Or.inr ⟨by rfl, rfl⟩) ?_ ?_
                    rotate_left
                    · simp only [Act.put, List.setIfInBounds_toArray, List.set_cons_zero, List.set_cons_succ, i64_w, i32_w]
                      rfl
                    refine pure_ (i := 13) (N := some 41) (v := ?_) (a' := ?_) #[true, true, true, true, true, true, true, true, true, true, true, true, true, true, false, false, false, false, false, false, false, false, false, false, false] rfl rfl (by kernel_rfl) (fun _ _ _ h => h) (Or.inl ⟨by rfl, ?_⟩) ?_ ?_
                    rotate_left
                    · intro w'
                      go_simp
                      with_reducible rfl
                    rotate_left
                    · simp only [Act.put, List.setIfInBounds_toArray, List.set_cons_zero, List.set_cons_succ, i64_w, i32_w]
                      rfl
                    refine pure_ (i := 14) (N := some 42) (v := ?_) (a' := ?_) #[true, true, true, true, true, true, true, true, true, true, true, true, true, true, true, false, false, false, false, false, false, false, false, false, false] rfl rfl (by kernel_rfl) (fun _ _ _ h => h) (Or.inl ⟨by rfl, ?_⟩) ?_ ?_
                    rotate_left
                    · intro w'
                      go_simp
                      with_reducible rfl
                    rotate_left
                    · simp only [Act.put, List.setIfInBounds_toArray, List.set_cons_zero, List.set_cons_succ, i64_w, i32_w]
                      rfl
                    refine pure_ (i := 15) (N := some 43) (v := undef) (a' := ?_) #[true, true, true, true, true, true, true, true, true, true, true, true, true, true, true, true, false, false, false, false, false, false, false, false, false] rfl rfl (by kernel_rfl) (fun _ _ _ h => h) (Or.inr ⟨by rfl, rfl⟩) ?_ ?_
                    rotate_left
                    · simp only [Act.put, List.setIfInBounds_toArray, List.set_cons_zero, List.set_cons_succ, i64_w, i32_w]
                      rfl
                    refine pure_ (i := 16) (N := some 44) (v := undef) (a' := ?_) #[true, true, true, true, true, true, true, true, true, true, true, true, true, true, true, true, true, false, false, false, false, false, false, false, false] rfl rfl (by kernel_rfl) (fun _ _ _ h => h) (Or.inr ⟨by rfl, rfl⟩) ?_ ?_
                    rotate_left
                    · simp only [Act.put, List.setIfInBounds_toArray, List.set_cons_zero, List.set_cons_succ, i64_w, i32_w]
                      rfl
                    refine pure_ (i := 17) (N := some 45) (v := undef) (a' := ?_) #[true, true, true, true, true, true, true, true, true, true, true, true, true, true, true, true, true, true, false, false, false, false, false, false, false] rfl rfl (by kernel_rfl) (fun _ _ _ h => h) (Or.inr ⟨by rfl, rfl⟩) ?_ ?_
                    rotate_left
                    · simp only [Act.put, List.setIfInBounds_toArray, List.set_cons_zero, List.set_cons_succ, i64_w, i32_w]
                      rfl
                    refine pure_ (i := 18) (N := some 46) (v := undef) (a' := ?_) #[true, true, true, true, true, true, true, true, true, true, true, true, true, true, true, true, true, true, true, false, false, false, false, false, false] rfl rfl (by kernel_rfl) (fun _ _ _ h => h) (Or.inr ⟨by rfl, rfl⟩) ?_ ?_
                    rotate_left
                    · simp only [Act.put, List.setIfInBounds_toArray, List.set_cons_zero, List.set_cons_succ, i64_w, i32_w]
                      rfl
                    refine pure_ (i := 19) (N := some 47) (v := undef) (a' := ?_) #[true, true, true, true, true, true, true, true, true, true, true, true, true, true, true, true, true, true, true, true, false, false, false, false, false] rfl rfl (by kernel_rfl) (fun _ _ _ h => h) (Or.inr ⟨by rfl, rfl⟩) ?_ ?_
                    rotate_left
                    · simp only [Act.put, List.setIfInBounds_toArray, List.set_cons_zero, List.set_cons_succ, i64_w, i32_w]
                      rfl
                    refine pure_ (i := 20) (N := some 48) (v := undef) (a' := ?_) #[true, true, true, true, true, true, true, true, true, true, true, true, true, true, true, true, true, true, true, true, true, false, false, false, false] rfl rfl (by kernel_rfl) (fun _ _ _ h => h) (Or.inr ⟨by rfl, rfl⟩) ?_ ?_
                    rotate_left
                    · simp only [Act.put, List.setIfInBounds_toArray, List.set_cons_zero, List.set_cons_succ, i64_w, i32_w]
                      rfl
                    refine pure_ (i := 21) (N := some 49) (v := undef) (a' := ?_) #[true, true, true, true, true, true, true, true, true, true, true, true, true, true, true, true, true, true, true, true, true, true, false, false, false] rfl rfl (by kernel_rfl) (fun _ _ _ h => h) (Or.inr ⟨by rfl, rfl⟩) ?_ ?_
                    rotate_left
                    · simp only [Act.put, List.setIfInBounds_toArray, List.set_cons_zero, List.set_cons_succ, i64_w, i32_w]
                      rfl
                    refine pure_ (i := 22) (N := some 50) (v := undef) (a' := ?_) #[true, true, true, true, true, true, true, true, true, true, true, true, true, true, true, true, true, true, true, true, true, true, true, false, false] rfl rfl (by kernel_rfl) (fun _ _ _ h => h) (Or.inr ⟨by rfl, rfl⟩) ?_ ?_
                    rotate_left
                    · simp only [Act.put, List.setIfInBounds_toArray, List.set_cons_zero, List.set_cons_succ, i64_w, i32_w]
                      rfl
                    refine pure_ (i := 23) (N := some 51) (v := ?_) (a' := ?_) #[true, true, true, true, true, true, true, true, true, true, true, true, true, true, true, true, true, true, true, true, true, true, true, true, false] rfl rfl (by kernel_rfl) (fun _ _ _ h => h) (Or.inl ⟨by rfl, ?_⟩) ?_ ?_
                    rotate_left
                    · intro w'
                      go_simp
                      with_reducible rfl
                    rotate_left
                    · simp only [Act.put, List.setIfInBounds_toArray, List.set_cons_zero, List.set_cons_succ, i64_w, i32_w]
                      rfl
                    refine pure_ (i := 24) (N := some 2) (v := ?_) (a' := ?_) #[true, true, true, true, true, true, true, true, true, true, true, true, true, true, true, true, true, true, true, true, true, true, true, true, true] rfl rfl (by kernel_rfl) (fun _ _ _ h => h) (Or.inl ⟨by rfl, ?_⟩) ?_ ?_
                    rotate_left
                    · intro w'
                      go_simp
                      with_reducible rfl
                    rotate_left
                    · simp only [Act.put, List.setIfInBounds_toArray, List.set_cons_zero, List.set_cons_succ, i64_w, i32_w]
                      rfl
                    refine done_ (by kernel_rfl) ?_
                    replace HS : Aside0 (Sep (fps []) w [] w3033) := ⟨HS.out.sub (.cons _ .slnil)⟩
                    go_wp2_with fail
                    go_ret
                    rw [← some_eq H]
                    exact ⟨(by first | rfl | (simp [IntKind.wrap_u32]; done)), HS.out⟩
                · have H := if_no c3036 H
                  have c3036b0 : b3023 = false := by simpa using c3036
                  have c3036b1 : (!b3023) = true := by rw [c3036b0]; rfl
                  clear c3036
                  try simp only [c3036b0, Bool.not_true, Bool.not_false]
                  refine pure_ (i := 5) (N := some 33) (v := undef) (a' := ?_) #[true, true, true, true, true, true, false, false, false, false, false, false, false, false, false, false, false, false, false, false, false, false, false, false, false] rfl rfl (by kernel_rfl) (fun _ _ _ h => h) (Or.inr ⟨by rfl, rfl⟩) ?_ ?_
                  rotate_left
                  · simp only [Act.put, List.setIfInBounds_toArray, List.set_cons_zero, List.set_cons_succ, i64_w, i32_w]
                    rfl
                  try simp only [c3036b0, Bool.not_true, Bool.not_false]
                  refine pure_ (i := 6) (N := some 34) (v := undef) (a' := ?_) #[true, true, true, true, true, true, true, false, false, false, false, false, false, false, false, false, false, false, false, false, false, false, false, false, false] rfl rfl (by kernel_rfl) (fun _ _ _ h => h) (Or.inr ⟨by rfl, rfl⟩) ?_ ?_
                  rotate_left
                  · simp only [Act.put, List.setIfInBounds_toArray, List.set_cons_zero, List.set_cons_succ, i64_w, i32_w]
                    rfl
                  try simp only [c3036b0, Bool.not_true, Bool.not_false]
                  refine pure_ (i := 7) (N := some 35) (v := undef) (a' := ?_) #[true, true, true, true, true, true, true, true, false, false, false, false, false, false, false, false, false, false, false, false, false, false, false, false, false] rfl rfl (by kernel_rfl) (fun _ _ _ h => h) (Or.inr ⟨by rfl, rfl⟩) ?_ ?_
                  rotate_left
                  · simp only [Act.put, List.setIfInBounds_toArray, List.set_cons_zero, List.set_cons_succ, i64_w, i32_w]
                    rfl
                  refine pure_ (i := 8) (N := some 36) (v := ?_) (a' := ?_) #[true, true, true, true, true, true, true, true, true, false, false, false, false, false, false, false, false, false, false, false, false, false, false, false, false] rfl rfl (by kernel_rfl) (fun _ _ _ h => h) (Or.inl ⟨by rfl, ?_⟩) ?_ ?_
                  rotate_left
                  · intro w'
                    go_simp
                    with_reducible rfl
                  rotate_left
                  · simp only [Act.put, List.setIfInBounds_toArray, List.set_cons_zero, List.set_cons_succ, i64_w, i32_w]
                    rfl
                  refine pure_ (i := 9) (N := some 37) (v := ?_) (a' := ?_) #[true, true, true, true, true, true, true, true, true, true, false, false, false, false, false, false, false, false, false, false, false, false, false, false, false] rfl rfl (by kernel_rfl) (fun _ _ _ h => h) (Or.inl ⟨by rfl, ?_⟩) ?_ ?_
                  rotate_left
                  · intro w'
                    go_simp
                    with_reducible rfl
                  rotate_left
                  · simp only [Act.put, List.setIfInBounds_toArray, List.set_cons_zero, List.set_cons_succ, i64_w, i32_w]
                    rfl
                  refine pure_ (i := 10) (N := some 38) (v := undef) (a' := ?_) #[true, true, true, true, true, true, true, true, true, true, true, false, false, false, false, false, false, false, false, false, false, false, false, false, false] rfl rfl (by kernel_rfl) (fun _ _ _ h => h) (Or.inr ⟨by rfl, rfl⟩) ?_ ?_
                  rotate_left
                  · simp only [Act.put, List.setIfInBounds_toArray, List.set_cons_zero, List.set_cons_succ, i64_w, i32_w]
                    rfl
                  refine pure_ (i := 11) (N := some 39) (v := undef) (a' := ?_) #[true, true, true, true, true, true, true, true, true, true, true, true, false, false, false, false, false, false, false, false, false, false, false, false, false] rfl rfl (by kernel_rfl) (fun _ _ _ h => h) (Or.inr ⟨by rfl, rfl⟩) ?_ ?_
                  rotate_left
                  · simp only [Act.put, List.setIfInBounds_toArray, List.set_cons_zero, List.set_cons_succ, i64_w, i32_w]
                    rfl
                  refine pure_ (i := 12) (N := some 40) (v := undef) (a' := ?_) #[true, true, true, true, true, true, true, true, true, true, true, true, true, false, false, false, false, false, false, false, false, false, false, false, false] rfl rfl (by kernel_rfl) (fun _ _ _ h => h) (Or.inr ⟨by rfl, rfl⟩) ?_ ?_
                  rotate_left
                  · simp only [Act.put, List.setIfInBounds_toArray, List.set_cons_zero, List.set_cons_succ, i64_w, i32_w]
                    rfl
                  refine pure_ (i := 13) (N := some 41) (v := ?_) (a' := ?_) #[true, true, true, true, true, true, true, true, true, true, true, true, true, true, false, false, false, false, false, false, false, false, false, false, false] rfl rfl (by kernel_rfl) (fun _ _ _ h => h) (Or.inl ⟨by rfl, ?_⟩) ?_ ?_
                  rotate_left
                  · intro w'
                    go_simp
                    with_reducible rfl
                  rotate_left
                  · simp only [Act.put, List.setIfInBounds_toArray, List.set_cons_zero, List.set_cons_succ, i64_w, i32_w]
                    rfl
                  refine pure_ (i := 14) (N := some 42) (v := ?_) (a' := ?_) #[true, true, true, true, true, true, true, true, true, true, true, true, true, true, true, false, false, false, false, false, false, false, false, false, false] rfl rfl (by kernel_rfl) (fun _ _ _ h => h) (Or.inl ⟨by rfl, ?_⟩) ?_ ?_
                  rotate_left
                  · intro w'
                    go_simp
                    with_reducible rfl
                  rotate_left
                  · simp only [Act.put, List.setIfInBounds_toArray, List.set_cons_zero, List.set_cons_succ, i64_w, i32_w]
                    rfl
                  refine pure_ (i := 15) (N := some 43) (v := undef) (a' := ?_) #[true, true, true, true, true, true, true, true, true, true, true, true, true, true, true, true, false, false, false, false, false, false, false, false, false] rfl rfl (by kernel_rfl) (fun _ _ _ h => h) (Or.inr ⟨by rfl, rfl⟩) ?_ ?_
                  rotate_left
                  · simp only [Act.put, List.setIfInBounds_toArray, List.set_cons_zero, List.set_cons_succ, i64_w, i32_w]
                    rfl
                  refine pure_ (i := 16) (N := some 44) (v := undef) (a' := ?_) #[true, true, true, true, true, true, true, true, true, true, true, true, true, true, true, true, true, false, false, false, false, false, false, false, false] rfl rfl (by kernel_rfl) (fun _ _ _ h => h) (Or.inr ⟨by rfl, rfl⟩) ?_ ?_
                  rotate_left
                  · simp only [Act.put, List.setIfInBounds_toArray, List.set_cons_zero, List.set_cons_succ, i64_w, i32_w]
                    rfl
                  refine pure_ (i := 17) (N := some 45) (v := undef) (a' := ?_) #[true, true, true, true, true, true, true, true, true, true, true, true, true, true, true, true, true, true, false, false, false, false, false, false, false] rfl rfl (by kernel_rfl) (fun _ _ _ h => h) (Or.inr ⟨by rfl, rfl⟩) ?_ ?_
                  rotate_left
                  · simp only [Act.put, List.setIfInBounds_toArray, List.set_cons_zero, List.set_cons_succ, i64_w, i32_w]
                    rfl
                  refine pure_ (i := 18) (N := some 46) (v := undef) (a' := ?_) #[true, true, true, true, true, true, true, true, true, true, true, true, true, true, true, true, true, true, true, false, false, false, false, false, false] rfl rfl (by kernel_rfl) (fun _ _ _ h => h) (Or.inr ⟨by rfl, rfl⟩) ?_ ?_
                  rotate_left
                  · simp only [Act.put, List.setIfInBounds_toArray, List.set_cons_zero, List.set_cons_succ, i64_w, i32_w]
                    rfl
                  refine pure_ (i := 19) (N := some 47) (v := undef) (a' := ?_) #[true, true, true, true, true, true, true, true, true, true, true, true, true, true, true, true, true, true, true, true, false, false, false, false, false] rfl rfl (by kernel_rfl) (fun _ _ _ h => h) (Or.inr ⟨by rfl, rfl⟩) ?_ ?_
                  rotate_left
                  · simp only [Act.put, List.setIfInBounds_toArray, List.set_cons_zero, List.set_cons_succ, i64_w, i32_w]
                    rfl
                  refine pure_ (i := 20) (N := some 48) (v := undef) (a' := ?_) #[true, true, true, true, true, true, true, true, true, true, true, true, true, true, true, true, true, true, true, true, true, false, false, false, false] rfl rfl (by kernel_rfl) (fun _ _ _ h => h) (Or.inr ⟨by rfl, rfl⟩) ?_ ?_
                  rotate_left
                  · simp only [Act.put, List.setIfInBounds_toArray, List.set_cons_zero, List.set_cons_succ, i64_w, i32_w]
                    rfl
                  refine pure_ (i := 21) (N := some 49) (v := undef) (a' := ?_) #[true, true, true, true, true, true, true, true, true, true, true, true, true, true, true, true, true, true, true, true, true, true, false, false, false] rfl rfl (by kernel_rfl) (fun _ _ _ h => h) (Or.inr ⟨by rfl, rfl⟩) ?_ ?_
                  rotate_left
                  · simp only [Act.put, List.setIfInBounds_toArray, List.set_cons_zero, List.set_cons_succ, i64_w, i32_w]
                    rfl
                  refine pure_ (i := 22) (N := some 50) (v := undef) (a' := ?_) #[true, true, true, true, true, true, true, true, true, true, true, true, true, true, true, true, true, true, true, true, true, true, true, false, false] rfl rfl (by kernel_rfl) (fun _ _ _ h => h) (Or.inr ⟨by rfl, rfl⟩) ?_ ?_
                  rotate_left
                  · simp only [Act.put, List.setIfInBounds_toArray, List.set_cons_zero, List.set_cons_succ, i64_w, i32_w]
                    rfl
                  refine pure_ (i := 23) (N := some 51) (v := ?_) (a' := ?_) #[true, true, true, true, true, true, true, true, true, true, true, true, true, true, true, true, true, true, true, true, true, true, true, true, false] rfl rfl (by kernel_rfl) (fun _ _ _ h => h) (Or.inl ⟨by rfl, ?_⟩) ?_ ?_
                  rotate_left
                  · intro w'
                    go_simp
                    with_reducible rfl
                  rotate_left
                  · simp only [Act.put, List.setIfInBounds_toArray, List.set_cons_zero, List.set_cons_succ, i64_w, i32_w]
                    rfl
                  refine pure_ (i := 24) (N := some 2) (v := ?_) (a' := ?_) #[true, true, true, true, true, true, true, true, true, true, true, true, true, true, true, true, true, true, true, true, true, true, true, true, true] rfl rfl (by kernel_rfl) (fun _ _ _ h => h) (Or.inl ⟨by rfl, ?_⟩) ?_ ?_
                  rotate_left
                  · intro w'
                    go_simp
                    with_reducible rfl
                  rotate_left
                  · simp only [Act.put, List.setIfInBounds_toArray, List.set_cons_zero, List.set_cons_succ, i64_w, i32_w]
                    rfl
                  refine done_ (by kernel_rfl) ?_
                  replace HS : Aside0 (Sep (fps []) w [] w3033) := ⟨HS.out.sub (.cons _ .slnil)⟩
                  go_wp2_with fail
                  go_ret
                  rw [← some_eq H]
                  exact ⟨(by first | rfl | (simp [IntKind.wrap_u32]; done)), HS.out⟩
              · have H := if_no c3029 H
                have c3029b0 : (a2934 == 3) = false := beq_eq_false_iff_ne.mpr c3029
                have c3029b1 : (a2934 != 3) = true := bne_iff_ne.mpr c3029
                clear c3029
                have hc3011 : w3002.cell? ⟨g2941, 0, none⟩ = some (.int .i64 a2934) := blk_cellv (HS.out.at0) 0 rfl
                replace HS : Aside0 (Sep (fps []) w [] w3002) := ⟨HS.out.sub (.cons _ .slnil)⟩
                go_wp2_with fail
                clear hc3011
                go_ret
                rw [← some_eq H]
                exact ⟨(by first | rfl | (simp [IntKind.wrap_u32]; done)), HS.out⟩

set_option maxHeartbeats 30000000 in
set_option maxRecDepth 100000 in
theorem pack_total.calls (k : Nat) (l3132 : List Int) (A3133 : Option Addr) (n3134 : Nat) (r : Int) (w : World) (HR3135 : Aside0 (Rd (Kd.int .i64) (fps []) w A3133 l3132.length l3132)) (HGl0 : Aside0 (Gl 0 #[.int .i64 0, .int .i64 0, .int .i64 0, .int .i64 0, .int .i64 0] (fps []) w)) (HS : Aside0 (Sep (fps []) w [] w)) (H : Aside0 (pack_total.f k l3132 = some r)) :
    Calls Tryd.prog 125 #[.slice A3133 l3132.length n3134] w fun e w' => e = .returned (.int .i64 r) ∧ Sep (fps []) w [] w' := by
  unfold pack_total.f at H
  go_enter Tryd.func125, Tryd.ntmps125
  go_wp2_with fail
  obtain ⟨o3148, AL3149, H⟩ := bind_some H
  go_loopg [3, 8] k (fun kq v3 v8 wc => ∃ (x3152 : Int) (x3153 : Int), v3 = .int .i64 x3152 ∧ v8 = .int .i64 x3153 ∧ Aside0 (pack_total.lo0 kq l3132 x3152 x3153 = some o3148) ∧ Aside0 (Sep (fps []) w [] wc))
  case atStart => exact ⟨(0), (0), (by first | rfl | (simp [IntKind.wrap_u32]; done)), (by first | rfl | (simp [IntKind.wrap_u32]; done)), AL3149, ⟨HS.out⟩⟩
  case round =>
    clear AL3149 HS
    obtain ⟨x3152, x3153, rfl, rfl, AL3149, HS⟩ := hrel
    obtain ⟨w3150, rfl⟩ : ∃ x : World, x = wr := ⟨_, rfl⟩
    cases gk with
    | zero => exact absurd AL3149.out (by simp [pack_total.lo0])
    | succ k3151 =>
      have AL0 := AL3149.out
      rw [pack_total.lo0] at AL0
      clear AL3149
      have AL3149 := Aside0.mk AL0
      clear AL0
      by_cases c3154 : x3153 < (l3132.length : Int)
      · have AL3149 := if_yes c3154 AL3149
        have c3154b0 : decide (x3153 < (l3132.length : Int)) = true := decide_eq_true c3154
        clear c3154
        by_cases c3155 : 0 ≤ x3153
        · have AL3149 := if_yes c3155 AL3149
          have c3155b0 : decide (0 ≤ x3153) = true := decide_eq_true c3155
          have c3155p : (0 ≤ x3153) = True := eq_true c3155
          clear c3155
          have ip3156 : (x3153 < (l3132.length : Int)) = True := eq_true (of_decide_eq_true c3154b0)
          by_cases c3158 : (rd l3132 x3153) < 1
          · have AL3149 := if_yes c3158 AL3149
            have c3158b0 : decide ((rd l3132 x3153) < 1) = true := decide_eq_true c3158
            clear c3158
            obtain ⟨hx3157a, hx3157e, hx3157⟩ := Kd.at_int (Rd.read (fun _ _ _ _ h => h) HR3135.out HS.out.fr) x3153 (of_decide_eq_true c3155b0) (of_decide_eq_true c3154b0); cases hx3157e
            go_wp2_with fail
            clear hx3157
            have ho := some_eq AL3149
            subst ho
            have H := lp_ret H
            go_ret
            rw [← some_eq H]
            exact ⟨(by first | rfl | (simp [IntKind.wrap_u32]; done)), HS.out⟩
          · have AL3149 := if_no c3158 AL3149
            have c3158b0 : decide ((rd l3132 x3153) < 1) = false := decide_eq_false c3158
            clear c3158
            by_cases c3159 : (rd l3132 x3153) > (wrap64 (32 - x3152))
            · have AL3149 := if_yes c3159 AL3149
              have c3159b0 : decide ((wrap64 (32 - x3152)) < (rd l3132 x3153)) = true := decide_eq_true c3159
              clear c3159
              obtain ⟨hx3157a, hx3157e, hx3157⟩ := Kd.at_int (Rd.read (fun _ _ _ _ h => h) HR3135.out HS.out.fr) x3153 (of_decide_eq_true c3155b0) (of_decide_eq_true c3154b0); cases hx3157e
              go_wp2_with fail
              clear hx3157
              have ho := some_eq AL3149
              subst ho
              have H := lp_ret H
              go_ret
              rw [← some_eq H]
              exact ⟨(by first | rfl | (simp [IntKind.wrap_u32]; done)), HS.out⟩
            · have AL3149 := if_no c3159 AL3149
              have c3159b0 : decide ((wrap64 (32 - x3152)) < (rd l3132 x3153)) = false := decide_eq_false c3159
              clear c3159
              obtain ⟨hx3157a, hx3157e, hx3157⟩ := Kd.at_int (Rd.read (fun _ _ _ _ h => h) HR3135.out HS.out.fr) x3153 (of_decide_eq_true c3155b0) (of_decide_eq_true c3154b0); cases hx3157e
              go_wp2_with fail
              clear hx3157
              go_roundg k3151
              case measure => exact Nat.lt_succ_self _
              case rel => exact ⟨(wrap64 (x3152 + (rd l3132 x3153))), (wrap64 (x3153 + 1)), (by first | rfl | (simp [IntKind.wrap_u32]; done)), (by first | rfl | (simp [IntKind.wrap_u32]; done)), Aside0.mk AL3149.out, ⟨HS.out⟩⟩
        · have AL3149 := if_no c3155 AL3149
          have c3155b0 : decide (0 ≤ x3153) = false := decide_eq_false c3155
          clear c3155
          exact (none_no AL3149).elim
      · have AL3149 := if_no c3154 AL3149
        have c3154b0 : decide (x3153 < (l3132.length : Int)) = false := decide_eq_false c3154
        clear c3154
        have ho := some_eq AL3149
        subst ho
        clear AL3149
        have H := lp_out H
        go_wp2_with fail
        go_ret
        rw [← some_eq H]
        exact ⟨(by first | rfl | (simp [IntKind.wrap_u32]; done)), HS.out⟩

set_option maxHeartbeats 30000000 in
set_option maxRecDepth 100000 in
theorem pack_Fits.calls (a3188 : Int) (a3189 : Int) (r : Bool) (w : World)  (HGl0 : Aside0 (Gl 0 #[.int .i64 0, .int .i64 0, .int .i64 0, .int .i64 0, .int .i64 0] (fps []) w)) (HS : Aside0 (Sep (fps []) w [] w)) (H : Aside0 (pack_Fits.f a3188 a3189 = some r)) :
    Calls Tryd.prog 152 #[.int .u32 a3188, .int .i64 a3189] w fun e w' => e = .returned (.bool r) ∧ Sep (fps []) w [] w' := by
  unfold pack_Fits.f at H
  go_enter Tryd.func152, Tryd.ntmps152
  by_cases c3190 : a3189 ≥ 32
  · have H := if_yes c3190 H
    have c3190b0 : decide (32 ≤ a3189) = true := decide_eq_true c3190
    clear c3190
    go_wp2_with fail
    go_ret
    rw [← some_eq H]
    exact ⟨(by first | rfl | (simp [IntKind.wrap_u32]; done)), HS.out⟩
  · have H := if_no c3190 H
    have c3190b0 : decide (32 ≤ a3189) = false := decide_eq_false c3190
    clear c3190
    by_cases c3191 : a3189 < 0
    · have H := if_yes c3191 H
      have c3191b0 : decide (a3189 < 0) = true := decide_eq_true c3191
      skip
      go_wp2_with fail
      clear c3191
      go_ret
      rw [← some_eq H]
      exact ⟨(by first | rfl | (simp [IntKind.wrap_u32]; done)), HS.out⟩
    · have H := if_no c3191 H
      have c3191b0 : decide (a3189 < 0) = false := decide_eq_false c3191
      by_cases c3192 : 0 ≤ (IntKind.u64.wrap (a3189))
      · have H := if_yes c3192 H
        have c3192b0 : decide (0 ≤ (IntKind.u64.wrap (a3189))) = true := decide_eq_true c3192
        skip
        skip
        go_wp2_with fail
        clear c3191 c3192
        go_ret
        rw [← some_eq H]
        exact ⟨(by first | rfl | (simp [IntKind.wrap_u32]; done)), HS.out⟩
      · have H := if_no c3192 H
        have c3192b0 : decide (0 ≤ (IntKind.u64.wrap (a3189))) = false := decide_eq_false c3192
        exact (none_no H).elim

set_option maxHeartbeats 30000000 in
set_option maxRecDepth 100000 in
theorem pack_Put.calls (a3180 : Int) (a3181 : Int) (a3182 : Int) (a3183 : Int) (r : Int × Int) (w : World)  (HGl0 : Aside0 (Gl 0 #[.int .i64 0, .int .i64 0, .int .i64 0, .int .i64 0, .int .i64 0] (fps []) w)) (HS : Aside0 (Sep (fps []) w [] w)) (H : Aside0 (pack_Put.f a3180 a3181 a3182 a3183 = some r)) :
    Calls Tryd.prog 126 #[.int .u32 a3180, .int .i64 a3181, .int .i64 a3182, .int .u32 a3183] w fun e w' => e = .returned (.tuple #[.int .u32 r.1, .int .i64 r.2]) ∧ Sep (fps []) w [] w' := by
  unfold pack_Put.f at H
  go_enter Tryd.func126, Tryd.ntmps126
  go_wp2_with fail
  obtain ⟨t3184, HA3185, H⟩ := bind_some H
  refine (pack_isPiece.calls a3181 a3182 t3184 _ ⟨HGl0.out.pass (l := []) HS.out⟩ ⟨Sep.start _⟩ HA3185).mono ?_
  rintro e_ w3186 ⟨rfl, hS⟩
  replace HS : Aside0 (Sep (fps []) w [] w3186) := ⟨HS.out.call hS⟩
  clear hS
  by_cases c3187 : t3184 = true
  · have H := if_yes c3187 H
    have c3187b0 : t3184 = true := c3187
    have c3187b1 : (!t3184) = false := by rw [c3187b0]; rfl
    try rw [c3187b1]
    clear c3187
    go_wp2_with fail
    obtain ⟨t3193, HA3194, H⟩ := bind_some H
    refine (pack_Fits.calls a3183 a3182 t3193 _ ⟨HGl0.out.pass (l := []) HS.out⟩ ⟨Sep.start _⟩ HA3194).mono ?_
    rintro e_ w3195 ⟨rfl, hS⟩
    replace HS : Aside0 (Sep (fps []) w [] w3195) := ⟨HS.out.call hS⟩
    clear hS
    by_cases c3196 : t3193 = true
    · have H := if_yes c3196 H
      have c3196b0 : t3193 = true := c3196
      have c3196b1 : (!t3193) = false := by rw [c3196b0]; rfl
      try rw [c3196b1]
      clear c3196
      go_wp2_with fail
      obtain ⟨t3197, HA3198, H⟩ := bind_some H
      refine (pack_mask.calls a3181 a3182 t3197 _ ⟨HGl0.out.pass (l := []) HS.out⟩ ⟨Sep.start _⟩ HA3198).mono ?_
      rintro e_ w3199 ⟨rfl, hS⟩
      replace HS : Aside0 (Sep (fps []) w [] w3199) := ⟨HS.out.call hS⟩
      clear hS
      by_cases c3200 : 0 ≤ (IntKind.u64.wrap (a3181))
      · have H := if_yes c3200 H
        have c3200b0 : decide (0 ≤ (IntKind.u64.wrap (a3181))) = true := decide_eq_true c3200
        skip
        go_wp2_with fail
        clear c3200
        go_ret2
        rw [← some_eq H]
        exact ⟨(by first | rfl | (simp [IntKind.wrap_u32]; done)), HS.out⟩
      · have H := if_no c3200 H
        have c3200b0 : decide (0 ≤ (IntKind.u64.wrap (a3181))) = false := decide_eq_false c3200
        exact (none_no H).elim
    · have H := if_no c3196 H
      have c3196b0 : t3193 = false := by simpa using c3196
      have c3196b1 : (!t3193) = true := by rw [c3196b0]; rfl
      try rw [c3196b1]
      clear c3196
      go_wp2_with fail
      go_ret2
      rw [← some_eq H]
      exact ⟨(by first | rfl | (simp [IntKind.wrap_u32]; done)), HS.out⟩
  · have H := if_no c3187 H
    have c3187b0 : t3184 = false := by simpa using c3187
    have c3187b1 : (!t3184) = true := by rw [c3187b0]; rfl
    try rw [c3187b1]
    clear c3187
    go_wp2_with fail
    go_ret2
    rw [← some_eq H]
    exact ⟨(by first | rfl | (simp [IntKind.wrap_u32]; done)), HS.out⟩

set_option maxHeartbeats 30000000 in
set_option maxRecDepth 100000 in
theorem pack_Join.calls (k : Nat) (l3124 : List Int) (l3128 : List Int) (A3125 : Option Addr) (n3126 : Nat) (A3129 : Option Addr) (n3130 : Nat) (r : Int × Int) (w : World) (HR3127 : Aside0 (Rd (Kd.int .u32) (fps []) w A3125 l3124.length l3124)) (HR3131 : Aside0 (Rd (Kd.int .i64) (fps []) w A3129 l3128.length l3128)) (HGl0 : Aside0 (Gl 0 #[.int .i64 0, .int .i64 0, .int .i64 0, .int .i64 0, .int .i64 0] (fps []) w)) (HS : Aside0 (Sep (fps []) w [] w)) (H : Aside0 (pack_Join.f k l3124 l3128 = some r)) :
    Calls Tryd.prog 69 #[.slice A3125 l3124.length n3126, .slice A3129 l3128.length n3130] w fun e w' => e = .returned (.tuple #[.int .u32 r.1, .int .i64 r.2]) ∧ Sep (fps []) w [] w' := by
  unfold pack_Join.f at H
  go_enter Tryd.func69, Tryd.ntmps69
  go_wp2_with fail
  obtain ⟨t3161, HA3162, H⟩ := bind_some H
  refine (pack_total.calls _ l3128 A3129 n3130 t3161 _ ⟨Rd.pass (l := []) (by decide) (fun _ _ _ _ h => h) HR3131.out HS.out⟩ ⟨HGl0.out.pass (l := []) HS.out⟩ ⟨Sep.start _⟩ HA3162).mono ?_
  rintro e_ w3163 ⟨rfl, hS⟩
  replace HS : Aside0 (Sep (fps []) w [] w3163) := ⟨HS.out.call hS⟩
  clear hS
  by_cases c3164 : t3161 < 0
  · have H := if_yes c3164 H
    have c3164b0 : decide (t3161 < 0) = true := decide_eq_true c3164
    clear c3164
    go_wp2_with fail
    go_ret2
    rw [← some_eq H]
    exact ⟨(by first | rfl | (simp [IntKind.wrap_u32]; done)), HS.out⟩
  · have H := if_no c3164 H
    have c3164b0 : decide (t3161 < 0) = false := decide_eq_false c3164
    clear c3164
    by_cases c3165 : (l3124.length : Int) = (l3128.length : Int)
    · have H := if_yes c3165 H
      have c3165b0 : ((l3124.length : Int) == (l3128.length : Int)) = true := beq_iff_eq.mpr c3165
      have c3165b1 : ((l3124.length : Int) != (l3128.length : Int)) = false := bne_eq_false_iff_eq.mpr c3165
      clear c3165
      go_wp2_with fail
      obtain ⟨o3205, AL3206, H⟩ := bind_some H
      go_loopg [6, 7, 24] k (fun kq v6 v7 v24 wc => ∃ (x3209 : Int) (x3210 : Int) (x3211 : Int), v6 = .int .u32 x3209 ∧ v7 = .int .i64 x3210 ∧ v24 = .int .i64 x3211 ∧ Aside0 (pack_Join.lo0 kq l3124 l3128 x3209 x3210 x3211 = some o3205) ∧ Aside0 (Sep (fps []) w [] wc))
      case atStart => exact ⟨(0), (0), (0), (by first | rfl | (simp [IntKind.wrap_u32]; done)), (by first | rfl | (simp [IntKind.wrap_u32]; done)), (by first | rfl | (simp [IntKind.wrap_u32]; done)), AL3206, ⟨HS.out⟩⟩
      case round =>
        clear AL3206 HS
        obtain ⟨x3209, x3210, x3211, rfl, rfl, rfl, AL3206, HS⟩ := hrel
        obtain ⟨w3207, rfl⟩ : ∃ x : World, x = wr := ⟨_, rfl⟩
        cases gk with
        | zero => exact absurd AL3206.out (by simp [pack_Join.lo0])
        | succ k3208 =>
          have AL0 := AL3206.out
          rw [pack_Join.lo0] at AL0
          clear AL3206
          have AL3206 := Aside0.mk AL0
          clear AL0
          by_cases c3212 : x3211 < (l3128.length : Int)
          · have AL3206 := if_yes c3212 AL3206
            have c3212b0 : decide (x3211 < (l3128.length : Int)) = true := decide_eq_true c3212
            clear c3212
            by_cases c3213 : 0 ≤ x3211
            · have AL3206 := if_yes c3213 AL3206
              have c3213b0 : decide (0 ≤ x3211) = true := decide_eq_true c3213
              have c3213p : (0 ≤ x3211) = True := eq_true c3213
              clear c3213
              have ip3214 : (x3211 < (l3128.length : Int)) = True := eq_true (of_decide_eq_true c3212b0)
              by_cases c3216 : x3211 < (l3124.length : Int)
              · have AL3206 := if_yes c3216 AL3206
                have c3216b0 : decide (x3211 < (l3124.length : Int)) = true := decide_eq_true c3216
                have c3216p : (x3211 < (l3124.length : Int)) = True := eq_true c3216
                clear c3216
                obtain ⟨hx3215a, hx3215e, hx3215⟩ := Kd.at_int (Rd.read (fun _ _ _ _ h => h) HR3131.out HS.out.fr) x3211 (of_decide_eq_true c3213b0) (of_decide_eq_true c3212b0); cases hx3215e
                obtain ⟨hx3217a, hx3217e, hx3217⟩ := Kd.at_int (Rd.read (fun _ _ _ _ h => h) HR3127.out HS.out.fr) x3211 (of_decide_eq_true c3213b0) (of_decide_eq_true c3216b0); cases hx3217e
                go_wp2_with fail
                clear hx3215 hx3217
                obtain ⟨t3201, HA3218, AL3206⟩ := bind_some AL3206
                refine (pack_Put.calls x3209 x3210 (rd l3128 x3211) (rd l3124 x3211) t3201 _ ⟨HGl0.out.pass (l := []) HS.out⟩ ⟨Sep.start _⟩ HA3218).mono ?_
                rintro e_ w3219 ⟨rfl, hS⟩
                replace HS : Aside0 (Sep (fps []) w [] w3219) := ⟨HS.out.call hS⟩
                clear hS
                by_cases c3220 : t3201.2 = 0
                · have AL3206 := if_yes c3220 AL3206
                  have c3220b0 : (t3201.2 == 0) = true := beq_iff_eq.mpr c3220
                  have c3220b1 : (t3201.2 != 0) = false := bne_eq_false_iff_eq.mpr c3220
                  clear c3220
                  go_wp2_with fail
                  go_roundg k3208
                  case measure => exact Nat.lt_succ_self _
                  case rel => exact ⟨(t3201.1), (wrap64 (x3210 + (rd l3128 x3211))), (wrap64 (x3211 + 1)), (by first | rfl | (simp [IntKind.wrap_u32]; done)), (by first | rfl | (simp [IntKind.wrap_u32]; done)), (by first | rfl | (simp [IntKind.wrap_u32]; done)), Aside0.mk AL3206.out, ⟨HS.out⟩⟩
                · have AL3206 := if_no c3220 AL3206
                  have c3220b0 : (t3201.2 == 0) = false := beq_eq_false_iff_ne.mpr c3220
                  have c3220b1 : (t3201.2 != 0) = true := bne_iff_ne.mpr c3220
                  clear c3220
                  go_wp2_with fail
                  have ho := some_eq AL3206
                  subst ho
                  have H := lp_ret H
                  go_ret2
                  rw [← some_eq H]
                  exact ⟨(by first | rfl | (simp [IntKind.wrap_u32]; done)), HS.out⟩
              · have AL3206 := if_no c3216 AL3206
                have c3216b0 : decide (x3211 < (l3124.length : Int)) = false := decide_eq_false c3216
                clear c3216
                exact (none_no AL3206).elim
            · have AL3206 := if_no c3213 AL3206
              have c3213b0 : decide (0 ≤ x3211) = false := decide_eq_false c3213
              clear c3213
              exact (none_no AL3206).elim
          · have AL3206 := if_no c3212 AL3206
            have c3212b0 : decide (x3211 < (l3128.length : Int)) = false := decide_eq_false c3212
            clear c3212
            have ho := some_eq AL3206
            subst ho
            clear AL3206
            have H := lp_out H
            go_wp2_with fail
            go_ret2
            rw [← some_eq H]
            exact ⟨(by first | rfl | (simp [IntKind.wrap_u32]; done)), HS.out⟩
    · have H := if_no c3165 H
      have c3165b0 : ((l3124.length : Int) == (l3128.length : Int)) = false := beq_eq_false_iff_ne.mpr c3165
      have c3165b1 : ((l3124.length : Int) != (l3128.length : Int)) = true := bne_iff_ne.mpr c3165
      clear c3165
      go_wp2_with fail
      go_ret2
      rw [← some_eq H]
      exact ⟨(by first | rfl | (simp [IntKind.wrap_u32]; done)), HS.out⟩

set_option maxHeartbeats 30000000 in
set_option maxRecDepth 100000 in
theorem tag_Pack.calls (k : Nat) (a2917 : Int) (a2918 : Int) (a2919 : Int) (a2920 : Int) (a2921 : Int) (a2922 : Int) (a2923 : Int) (r : Int × Int) (w : World)  (HGl0 : Aside0 (Gl 0 #[.int .i64 0, .int .i64 0, .int .i64 0, .int .i64 0, .int .i64 0] (fps []) w)) (HS : Aside0 (Sep (fps []) w [] w)) (H : Aside0 (tag_Pack.f k a2917 a2918 a2919 a2920 a2921 a2922 a2923 = some r)) :
    Calls Tryd.prog 16 #[.agg #[.int .i64 a2917, .int .i64 a2918, .int .i64 a2919, .int .i64 a2920, .int .i64 a2921, .int .i64 a2922, .int .i64 a2923]] w fun e w' => e = .returned (.tuple #[.int .u32 r.1, .int .i64 r.2]) ∧ Sep (fps []) w [] w' := by
  unfold tag_Pack.f at H
  go_enter Tryd.func16, Tryd.ntmps16
  go_wp2_with (first | ((with_reducible refine gate_dst (N := 1) rfl ?_); refine box_on ?hg (N := 1) ?hd (cs := #[.int .i64 a2917, .int .i64 a2918, .int .i64 a2919, .int .i64 a2920, .int .i64 a2921, .int .i64 a2922, .int .i64 a2923]) (t := 32) ?hr ?_; (case hd => rfl); (case hg => rfl); (case hr => first | (go_simp; done) | (go_simp; rfl)); intro g2924 hg w2925 hbox hb; replace HS : Aside0 (Sep (fps []) w [b17 g2924 a2917 a2918 a2919 a2920 a2921 a2922 a2923] w2925) := ⟨HS.out.box hg hbox hb⟩; clear hg hbox hb; have hc2927 : w2925.cell? ⟨g2924, 0, none⟩ = some (.int .i64 a2917) := blk_cellv (HS.out.at0) 0 rfl; have hc2928 : w2925.cell? ⟨g2924, 1, none⟩ = some (.int .i64 a2918) := blk_cellv (HS.out.at0) 1 rfl; have hc2929 : w2925.cell? ⟨g2924, 2, none⟩ = some (.int .i64 a2919) := blk_cellv (HS.out.at0) 2 rfl; have hc2930 : w2925.cell? ⟨g2924, 3, none⟩ = some (.int .i64 a2920) := blk_cellv (HS.out.at0) 3 rfl; have hc2931 : w2925.cell? ⟨g2924, 4, none⟩ = some (.int .i64 a2921) := blk_cellv (HS.out.at0) 4 rfl; have hc2932 : w2925.cell? ⟨g2924, 5, none⟩ = some (.int .i64 a2922) := blk_cellv (HS.out.at0) 5 rfl; have hc2933 : w2925.cell? ⟨g2924, 6, none⟩ = some (.int .i64 a2923) := blk_cellv (HS.out.at0) 6 rfl))
  clear hc2927 hc2928 hc2929 hc2930 hc2931 hc2932 hc2933
  obtain ⟨t3066, HA3067, H⟩ := bind_some H
  refine (tag_Right.calls _ a2917 a2918 a2919 a2920 a2921 a2922 a2923 t3066 _ ⟨HGl0.out.pass (l := []) HS.out⟩ ⟨Sep.start _⟩ HA3067).mono ?_
  rintro e_ w3068 ⟨rfl, hS⟩
  replace HS : Aside0 (Sep (fps []) w [b17 g2924 a2917 a2918 a2919 a2920 a2921 a2922 a2923] w3068) := ⟨HS.out.call hS⟩
  clear hS
  by_cases c3069 : t3066 = true
  · have H := if_yes c3069 H
    have c3069b0 : t3066 = true := c3069
    have c3069b1 : (!t3066) = false := by rw [c3069b0]; rfl
    try rw [c3069b1]
    clear c3069
    have hc3070 : w3068.cell? ⟨g2924, 0, none⟩ = some (.int .i64 a2917) := blk_cellv (HS.out.at0) 0 rfl
    go_wp2_with (first | ((with_reducible refine gate_dst (N := 13) rfl ?_); refine slice_on (n := 1) ?hg (N := 13) ?hd (cs := #[.int .u32 ((a2917) % 4294967296)]) (t := 33) ?hr ?_; (case hd => rfl); (case hg => rfl); (case hr => first | (go_simp; done) | (go_simp; rfl)); intro g3071 hg w3072 hbox hb; clear hc3070; replace HS : Aside0 (Sep (fps []) w [b17 g2924 a2917 a2918 a2919 a2920 a2921 a2922 a2923, b16 g3071 ((a2917) % 4294967296)] w3072) := ⟨HS.out.box hg hbox hb⟩; clear hg hbox hb; have hc3074 : w3072.cell? ⟨g2924, 0, none⟩ = some (.int .i64 a2917) := blk_cellv (HS.out.at0) 0 rfl; have hc3075 : w3072.cell? ⟨g2924, 1, none⟩ = some (.int .i64 a2918) := blk_cellv (HS.out.at0) 1 rfl; have hc3076 : w3072.cell? ⟨g2924, 2, none⟩ = some (.int .i64 a2919) := blk_cellv (HS.out.at0) 2 rfl; have hc3077 : w3072.cell? ⟨g2924, 3, none⟩ = some (.int .i64 a2920) := blk_cellv (HS.out.at0) 3 rfl; have hc3078 : w3072.cell? ⟨g2924, 4, none⟩ = some (.int .i64 a2921) := blk_cellv (HS.out.at0) 4 rfl; have hc3079 : w3072.cell? ⟨g2924, 5, none⟩ = some (.int .i64 a2922) := blk_cellv (HS.out.at0) 5 rfl; have hc3080 : w3072.cell? ⟨g2924, 6, none⟩ = some (.int .i64 a2923) := blk_cellv (HS.out.at0) 6 rfl))
    clear hc3074 hc3075 hc3076 hc3077 hc3078 hc3079 hc3080
    obtain ⟨t3081, HA3082, H⟩ := bind_some H
    refine (tag_marks.calls a2917 a2918 a2919 a2920 a2921 a2922 a2923 t3081 _ ⟨HGl0.out.pass (l := []) HS.out⟩ ⟨Sep.start _⟩ HA3082).mono ?_
    rintro e_ w3083 ⟨rfl, hS⟩
    replace HS : Aside0 (Sep (fps []) w [b17 g2924 a2917 a2918 a2919 a2920 a2921 a2922 a2923, b16 g3071 ((a2917) % 4294967296)] w3083) := ⟨HS.out.call hS⟩
    clear hS
    go_wp2_with fail
    replace HS : Aside0 (Sep (fps []) w [b17 g2924 a2917 a2918 a2919 a2920 a2921 a2922 a2923, r5 (some ⟨g3071, 0, none⟩) 1 1 [(a2917) % 4294967296]] w3083) := ⟨Sep.litrow (l1 := [b17 g2924 a2917 a2918 a2919 a2920 a2921 a2922 a2923]) (l2 := []) (enc := Value.int .u32) (xs := [(a2917) % 4294967296]) (n := 1) HS.out rfl (by decide)⟩
    obtain ⟨o3085, AL3086, H⟩ := bind_some H
    go_loopg [4, 16] k (fun kq v4 v16 wc => ∃ (x3090 : Int) (x3091 : List Int) (A3092 : Option Addr) (m3093 : Nat) (n3094 : Nat), v4 = .slice A3092 m3093 n3094 ∧ v16 = .int .i64 x3090 ∧ Aside0 (tag_Pack.lo0 kq t3081 x3090 x3091 = some o3085) ∧ Aside0 (Sep (fps []) w [b17 g2924 a2917 a2918 a2919 a2920 a2921 a2922 a2923, r5 A3092 m3093 n3094 x3091] wc))
    case atStart => exact ⟨(0), ([(a2917) % 4294967296]), ((some ⟨g3071, 0, none⟩)), (1), (1), (by first | rfl | (simp [IntKind.wrap_u32]; done)), (by first | rfl | (simp [IntKind.wrap_u32]; done)), AL3086, ⟨HS.out⟩⟩
    case round =>
      clear AL3086 HS
      obtain ⟨x3090, x3091, A3092, m3093, n3094, rfl, rfl, AL3086, HS⟩ := hrel
      obtain ⟨w3087, rfl⟩ : ∃ x : World, x = wr := ⟨_, rfl⟩
      obtain rfl := (row_len (HS.out.at1)).symm
      cases gk with
      | zero => exact absurd AL3086.out (by simp [tag_Pack.lo0])
      | succ k3088 =>
        have AL0 := AL3086.out
        rw [tag_Pack.lo0] at AL0
        clear AL3086
        have AL3086 := Aside0.mk AL0
        clear AL0
        by_cases c3096 : x3090 < 5
        · have AL3086 := if_yes c3096 AL3086
          have c3096b0 : decide (x3090 < 5) = true := decide_eq_true c3096
          clear c3096
          by_cases c3097 : 0 ≤ x3090
          · have AL3086 := if_yes c3097 AL3086
            have c3097b0 : decide (0 ≤ x3090) = true := decide_eq_true c3097
            have c3097p : (0 ≤ x3090) = True := eq_true c3097
            clear c3097
            have ip3098 : (x3090 < 5) = True := eq_true (of_decide_eq_true c3096b0)
            have ix3099 : ∀ w, (Instr.index 108 (.agg #[.int .i64 t3081.1, .int .i64 t3081.2.1, .int .i64 t3081.2.2.1, .int .i64 t3081.2.2.2.1, .int .i64 t3081.2.2.2.2]) (.int .i64 x3090)).run Tryd.prog w = .ok (.int .i64 (rd [t3081.1, t3081.2.1, t3081.2.2.1, t3081.2.2.2.1, t3081.2.2.2.2] x3090)) w := run_index_ints 108 3 5 .i64 .i64 [t3081.1, t3081.2.1, t3081.2.2.1, t3081.2.2.2.1, t3081.2.2.2.2] x3090 Tryd.underlying108 (fun _ => by kernel_rfl) (fun _ => by kernel_rfl) rfl (of_decide_eq_true c3097b0) (of_decide_eq_true c3096b0)
            by_cases c3103 : x3091.length < 35184372088832
            · have AL3086 := if_yes c3103 AL3086
              have c3103b0 : decide (x3091.length < 35184372088832) = true := decide_eq_true c3103
              clear c3103
              obtain ⟨y3107, HA3108, AL3086⟩ := bind_some AL3086
              go_wp2_with (first | ((with_reducible refine gate_dst (N := 22) rfl ?_); refine slice_on (n := 1) ?hg (N := 22) ?hd (cs := #[.int .u32 ((rd [t3081.1, t3081.2.1, t3081.2.2.1, t3081.2.2.2.1, t3081.2.2.2.2] x3090) % 4294967296)]) (t := 33) ?hr ?_; (case hd => rfl); (case hg => rfl); (case hr => first | (go_simp; done) | (go_simp; rfl)); intro g3100 hg w3101 hbox hb; replace HS : Aside0 (Sep (fps []) w [b17 g2924 a2917 a2918 a2919 a2920 a2921 a2922 a2923, r5 A3092 x3091.length n3094 x3091, b16 g3100 ((rd [t3081.1, t3081.2.1, t3081.2.2.1, t3081.2.2.2.1, t3081.2.2.2.2] x3090) % 4294967296)] w3101) := ⟨HS.out.box hg hbox hb⟩; clear hg hbox hb) | ((with_reducible refine gate_dst (N := 23) rfl ?_); refine append_event (l1 := [b17 g2924 a2917 a2918 a2919 a2920 a2921 a2922 a2923]) (l2 := [b16 g3100 ((rd [t3081.1, t3081.2.1, t3081.2.2.1, t3081.2.2.2.1, t3081.2.2.2.2] x3090) % 4294967296)]) rfl (.tmp 19) (.tmp 22) 69 33 (.int .u32 0) 4 rfl Tryd.underlying69 (by kernel_rfl) rfl (by decide) (Value.int .u32) (fun _ => rfl) (.slice A3092 x3091.length n3094) (x3091 : List Int) [(rd [t3081.1, t3081.2.1, t3081.2.2.1, t3081.2.2.2.1, t3081.2.2.2.2] x3090) % 4294967296] ⟨g3100, 0, none⟩ 1 rfl rfl (blk_news (xs := [(rd [t3081.1, t3081.2.1, t3081.2.2.1, t3081.2.2.2.1, t3081.2.2.2.2] x3090) % 4294967296]) (HS.out.at2)) HS.out (by have := of_decide_eq_true c3103b0; simp only [List.length_cons, List.length_nil]; omega) HA3108 ?_; intro A3104 n3105 w3106 HS1; replace HS : Aside0 (Sep (fps []) w [b17 g2924 a2917 a2918 a2919 a2920 a2921 a2922 a2923, r5 A3104 y3107.length n3105 y3107, b16 g3100 ((rd [t3081.1, t3081.2.1, t3081.2.2.1, t3081.2.2.2.1, t3081.2.2.2.2] x3090) % 4294967296)] w3106) := ⟨HS1⟩; clear HS1; replace HS : Aside0 (Sep (fps []) w [b17 g2924 a2917 a2918 a2919 a2920 a2921 a2922 a2923, r5 A3104 y3107.length n3105 y3107] w3106) := ⟨HS.out.sub (.cons_cons _ (.cons_cons _ (.cons _ .slnil)))⟩))
              go_roundg k3088
              case measure => exact Nat.lt_succ_self _
              case rel => exact ⟨(wrap64 (x3090 + 1)), (y3107), (A3104), (y3107.length), (n3105), (by first | rfl | (simp [IntKind.wrap_u32]; done)), (by first | rfl | (simp [IntKind.wrap_u32]; done)), Aside0.mk AL3086.out, ⟨HS.out⟩⟩
            · have AL3086 := if_no c3103 AL3086
              have c3103b0 : decide (x3091.length < 35184372088832) = false := decide_eq_false c3103
              clear c3103
              exact (none_no AL3086).elim
          · have AL3086 := if_no c3097 AL3086
            have c3097b0 : decide (0 ≤ x3090) = false := decide_eq_false c3097
            clear c3097
            exact (none_no AL3086).elim
        · have AL3086 := if_no c3096 AL3086
          have c3096b0 : decide (x3090 < 5) = false := decide_eq_false c3096
          clear c3096
          have ho := some_eq AL3086
          subst ho
          clear AL3086
          by_cases c3114 : x3091.length < 35184372088831
          · have H := if_yes c3114 H
            have c3114b0 : decide (x3091.length < 35184372088831) = true := decide_eq_true c3114
            clear c3114
            obtain ⟨y3118, HA3119, H⟩ := bind_some H
            have hc3110 : w3087.cell? ⟨g2924, 6, none⟩ = some (.int .i64 a2923) := blk_cellv (HS.out.at0) 6 rfl
            go_wp2_with (first | ((with_reducible refine gate_dst (N := 29) rfl ?_); refine slice_on (n := 2) ?hg (N := 29) ?hd (cs := #[.int .u32 0, .int .u32 ((a2923) % 4294967296)]) (t := 33) ?hr ?_; (case hd => rfl); (case hg => rfl); (case hr => first | (go_simp; done) | (go_simp; rfl)); intro g3111 hg w3112 hbox hb; clear hc3110; replace HS : Aside0 (Sep (fps []) w [b17 g2924 a2917 a2918 a2919 a2920 a2921 a2922 a2923, r5 A3092 x3091.length n3094 x3091, b23 g3111 0 ((a2923) % 4294967296)] w3112) := ⟨HS.out.box hg hbox hb⟩; clear hg hbox hb) | ((with_reducible refine gate_dst (N := 30) rfl ?_); refine append_event (l1 := [b17 g2924 a2917 a2918 a2919 a2920 a2921 a2922 a2923]) (l2 := [b23 g3111 0 ((a2923) % 4294967296)]) rfl (.tmp 25) (.tmp 29) 69 33 (.int .u32 0) 4 rfl Tryd.underlying69 (by kernel_rfl) rfl (by decide) (Value.int .u32) (fun _ => rfl) (.slice A3092 x3091.length n3094) (x3091 : List Int) [0, (a2923) % 4294967296] ⟨g3111, 0, none⟩ 2 rfl rfl (blk_news (xs := [0, (a2923) % 4294967296]) (HS.out.at2)) HS.out (by have := of_decide_eq_true c3114b0; simp only [List.length_cons, List.length_nil]; omega) HA3119 ?_; intro A3115 n3116 w3117 HS1; replace HS : Aside0 (Sep (fps []) w [b17 g2924 a2917 a2918 a2919 a2920 a2921 a2922 a2923, r5 A3115 y3118.length n3116 y3118, b23 g3111 0 ((a2923) % 4294967296)] w3117) := ⟨HS1⟩; clear HS1) | ((with_reducible refine gate_dst (N := 31) rfl ?_); refine slice_on (n := 8) ?hg (N := 31) ?hd (cs := #[.int .i64 2, .int .i64 1, .int .i64 1, .int .i64 1, .int .i64 1, .int .i64 1, .int .i64 1, .int .i64 24]) (t := 3) ?hr ?_; (case hd => rfl); (case hg => rfl); (case hr => first | (go_simp; done) | (go_simp; rfl)); intro g3121 hg w3122 hbox hb; replace HS : Aside0 (Sep (fps []) w [b17 g2924 a2917 a2918 a2919 a2920 a2921 a2922 a2923, r5 A3115 y3118.length n3116 y3118, b23 g3111 0 ((a2923) % 4294967296), b24 g3121 2 1 1 1 1 1 1 24] w3122) := ⟨HS.out.box hg hbox hb⟩; clear hg hbox hb))
            obtain ⟨t3222, HA3223, H⟩ := bind_some H
            refine (pack_Join.calls _ y3118 [2, 1, 1, 1, 1, 1, 1, 24] A3115 n3116 (some ⟨g3121, 0, none⟩) 8 t3222 _ ⟨Rd.ownI (l := []) HS.out 1 rfl⟩ ⟨Rd.lit (l := []) (xs := [2, 1, 1, 1, 1, 1, 1, 24]) HS.out 3 rfl (by simp)⟩ ⟨HGl0.out.pass (l := []) HS.out⟩ ⟨Sep.start _⟩ HA3223).mono ?_
            rintro e_ w3224 ⟨rfl, hS⟩
            replace HS : Aside0 (Sep (fps []) w [b17 g2924 a2917 a2918 a2919 a2920 a2921 a2922 a2923, r5 A3115 y3118.length n3116 y3118, b23 g3111 0 ((a2923) % 4294967296), b24 g3121 2 1 1 1 1 1 1 24] w3224) := ⟨HS.out.call hS⟩
            clear hS
            replace HS : Aside0 (Sep (fps []) w [] w3224) := ⟨HS.out.sub (.cons _ (.cons _ (.cons _ (.cons _ .slnil))))⟩
            go_wp2_with fail
            go_ret2
            rw [← some_eq H]
            exact ⟨(by first | rfl | (simp [IntKind.wrap_u32]; done)), HS.out⟩
          · have H := if_no c3114 H
            have c3114b0 : decide (x3091.length < 35184372088831) = false := decide_eq_false c3114
            clear c3114
            exact (none_no H).elim
  · have H := if_no c3069 H
    have c3069b0 : t3066 = false := by simpa using c3069
    have c3069b1 : (!t3066) = true := by rw [c3069b0]; rfl
    try rw [c3069b1]
    clear c3069
    replace HS : Aside0 (Sep (fps []) w [] w3068) := ⟨HS.out.sub (.cons _ .slnil)⟩
    go_wp2_with fail
    go_ret2
    rw [← some_eq H]
    exact ⟨(by first | rfl | (simp [IntKind.wrap_u32]; done)), HS.out⟩

set_option maxHeartbeats 30000000 in
set_option maxRecDepth 100000 in
theorem obj_mark_nil.calls (k : Nat) (a2899 : Int) (a2900 : Int) (a2901 : Int) (a2902 : Int) (a2903 : Int) (a2904 : Int) (a2905 : Int) (a2906 : Int) (r : Unit) (w : World)  (HGl0 : Aside0 (Gl 0 #[.int .i64 0, .int .i64 0, .int .i64 0, .int .i64 0, .int .i64 0] (fps []) w)) (HS : Aside0 (Sep (fps []) w [] w)) (H : Aside0 (obj_mark_nil.f k a2899 a2900 a2901 a2902 a2903 a2904 a2905 a2906 = some r)) :
    Calls Tryd.prog 99 #[.pointer none, .int .i64 a2899, .agg #[.int .i64 a2900, .int .i64 a2901, .int .i64 a2902, .int .i64 a2903, .int .i64 a2904, .int .i64 a2905, .int .i64 a2906]] w fun e w' => e = .returned (.tuple #[]) ∧ Sep (fps []) w [] w' := by
  unfold obj_mark_nil.f at H
  go_enter Tryd.func99, Tryd.ntmps99
  go_wp2_with (first | ((with_reducible refine gate_dst (N := 5) rfl ?_); refine box_on ?hg (N := 5) ?hd (cs := #[.int .i64 a2900, .int .i64 a2901, .int .i64 a2902, .int .i64 a2903, .int .i64 a2904, .int .i64 a2905, .int .i64 a2906]) (t := 32) ?hr ?_; (case hd => rfl); (case hg => rfl); (case hr => first | (go_simp; done) | (go_simp; rfl)); intro g2907 hg w2908 hbox hb; replace HS : Aside0 (Sep (fps []) w [b17 g2907 a2900 a2901 a2902 a2903 a2904 a2905 a2906] w2908) := ⟨HS.out.box hg hbox hb⟩; clear hg hbox hb; have hc2910 : w2908.cell? ⟨g2907, 0, none⟩ = some (.int .i64 a2900) := blk_cellv (HS.out.at0) 0 rfl; have hc2911 : w2908.cell? ⟨g2907, 1, none⟩ = some (.int .i64 a2901) := blk_cellv (HS.out.at0) 1 rfl; have hc2912 : w2908.cell? ⟨g2907, 2, none⟩ = some (.int .i64 a2902) := blk_cellv (HS.out.at0) 2 rfl; have hc2913 : w2908.cell? ⟨g2907, 3, none⟩ = some (.int .i64 a2903) := blk_cellv (HS.out.at0) 3 rfl; have hc2914 : w2908.cell? ⟨g2907, 4, none⟩ = some (.int .i64 a2904) := blk_cellv (HS.out.at0) 4 rfl; have hc2915 : w2908.cell? ⟨g2907, 5, none⟩ = some (.int .i64 a2905) := blk_cellv (HS.out.at0) 5 rfl; have hc2916 : w2908.cell? ⟨g2907, 6, none⟩ = some (.int .i64 a2906) := blk_cellv (HS.out.at0) 6 rfl))
  clear hc2910 hc2911 hc2912 hc2913 hc2914 hc2915 hc2916
  obtain ⟨t3244, HA3245, H⟩ := bind_some H
  refine (tag_Pack.calls _ a2900 a2901 a2902 a2903 a2904 a2905 a2906 t3244 _ ⟨HGl0.out.pass (l := []) HS.out⟩ ⟨Sep.start _⟩ HA3245).mono ?_
  rintro e_ w3246 ⟨rfl, hS⟩
  replace HS : Aside0 (Sep (fps []) w [b17 g2907 a2900 a2901 a2902 a2903 a2904 a2905 a2906] w3246) := ⟨HS.out.call hS⟩
  clear hS
  by_cases c3247 : t3244.2 = 0
  · have H := if_yes c3247 H
    have c3247b0 : (t3244.2 == 0) = true := beq_iff_eq.mpr c3247
    have c3247b1 : (t3244.2 != 0) = false := bne_eq_false_iff_eq.mpr c3247
    clear c3247
    replace HS : Aside0 (Sep (fps []) w [] w3246) := ⟨HS.out.sub (.cons _ .slnil)⟩
    go_wp2_with fail
    obtain ⟨t3248, HA3249, H⟩ := bind_some H
    refine (ground_Ground_SetWord_nil.calls a2899 0 t3244.1 t3248 _ ⟨HGl0.out.pass (l := []) HS.out⟩ ⟨Sep.start _⟩ HA3249).mono ?_
    rintro e_ w3250 ⟨rfl, hS⟩
    replace HS : Aside0 (Sep (fps []) w [] w3250) := ⟨HS.out.call hS⟩
    clear hS
    go_wp2_with fail
    first | go_end0 | refine bodyPost_ret (results_none rfl _ _ _) rfl ?_
    clear H
    exact ⟨rfl, HS.out⟩
  · have H := if_no c3247 H
    have c3247b0 : (t3244.2 == 0) = false := beq_eq_false_iff_ne.mpr c3247
    have c3247b1 : (t3244.2 != 0) = true := bne_iff_ne.mpr c3247
    clear c3247
    replace HS : Aside0 (Sep (fps []) w [] w3246) := ⟨HS.out.sub (.cons _ .slnil)⟩
    go_wp2_with fail
    first | go_end0 | refine bodyPost_ret (results_none rfl _ _ _) rfl ?_
    clear H
    exact ⟨rfl, HS.out⟩

set_option maxHeartbeats 30000000 in
set_option maxRecDepth 100000 in
theorem obj_Make_nil.calls (k : Nat) (a2743 : Int) (a2744 : Int) (r : Int × Int) (w : World)  (HGl0 : Aside0 (Gl 0 #[.int .i64 0, .int .i64 0, .int .i64 0, .int .i64 0, .int .i64 0] (fps []) w)) (HS : Aside0 (Sep (fps []) w [] w)) (H : Aside0 (obj_Make_nil.f k a2743 a2744 = some r)) :
    Calls Tryd.prog 34 #[.pointer none, .int .i64 a2743, .int .i64 a2744] w fun e w' => e = .returned (.tuple #[.int .i64 r.1, .int .i64 r.2]) ∧ Sep (fps []) w [] w' := by
  unfold obj_Make_nil.f at H
  go_enter Tryd.func34, Tryd.ntmps34
  go_wp2_with fail
  obtain ⟨t2745, HA2746, H⟩ := bind_some H
  refine (ground_Ground_Conf_nil.calls t2745 _ ⟨HGl0.out.pass (l := []) HS.out⟩ ⟨Sep.start _⟩ HA2746).mono ?_
  rintro e_ w2747 ⟨rfl, hS⟩
  replace HS : Aside0 (Sep (fps []) w [] w2747) := ⟨HS.out.call hS⟩
  clear hS
  have fl2748 : ∀ w, (Instr.field 30 (.agg #[.int .i64 t2745.1, .int .i64 t2745.2.1, .int .i64 t2745.2.2.1, .int .i64 t2745.2.2.2]) 1).run Tryd.prog w = .ok (.int .i64 t2745.2.1) w := fun _ => by kernel_rfl
  go_wp2_with fail
  clear fl2748
  obtain ⟨t2749, HA2750, H⟩ := bind_some H
  refine (shape_Blocks.calls _ t2745.2.1 a2743 a2744 t2749 _ ⟨HGl0.out.pass (l := []) HS.out⟩ ⟨Sep.start _⟩ HA2750).mono ?_
  rintro e_ w2751 ⟨rfl, hS⟩
  replace HS : Aside0 (Sep (fps []) w [] w2751) := ⟨HS.out.call hS⟩
  clear hS
  by_cases c2752 : t2749.2 = 0
  · have H := if_yes c2752 H
    have c2752b0 : (t2749.2 == 0) = true := beq_iff_eq.mpr c2752
    have c2752b1 : (t2749.2 != 0) = false := bne_eq_false_iff_eq.mpr c2752
    clear c2752
    go_wp2_with fail
    obtain ⟨t2799, HA2800, H⟩ := bind_some H
    refine (pool_Len_nil.calls t2799 _ ⟨HGl0.out.pass (l := []) HS.out⟩ ⟨Sep.start _⟩ HA2800).mono ?_
    rintro e_ w2801 ⟨rfl, hS⟩
    replace HS : Aside0 (Sep (fps []) w [] w2801) := ⟨HS.out.call hS⟩
    clear hS
    by_cases c2802 : t2799 < t2749.1
    · have H := if_yes c2802 H
      have c2802b0 : decide (t2799 < t2749.1) = true := decide_eq_true c2802
      clear c2802
      go_wp2_with fail
      go_ret2
      rw [← some_eq H]
      exact ⟨(by first | rfl | (simp [IntKind.wrap_u32]; done)), HS.out⟩
    · have H := if_no c2802 H
      have c2802b0 : decide (t2799 < t2749.1) = false := decide_eq_false c2802
      clear c2802
      go_wp2_with fail
      obtain ⟨t2895, HA2896, H⟩ := bind_some H
      refine (pool_Take_nil.calls _ t2895 _ ⟨HGl0.out.pass (l := []) HS.out⟩ ⟨Sep.start _⟩ HA2896).mono ?_
      rintro e_ w2897 ⟨rfl, hS⟩
      replace HS : Aside0 (Sep (fps []) w [] w2897) := ⟨HS.out.call hS⟩
      clear hS
      by_cases c2898 : t2749.1 > 1
      · have H := if_yes c2898 H
        have c2898b0 : decide (1 < t2749.1) = true := decide_eq_true c2898
        clear c2898
        go_wp2_with fail
        obtain ⟨t3251, HA3252, H⟩ := bind_some H
        refine (obj_mark_nil.calls _ t2895.1 2 0 0 0 0 0 0 t3251 _ ⟨HGl0.out.pass (l := []) HS.out⟩ ⟨Sep.start _⟩ HA3252).mono ?_
        rintro e_ w3253 ⟨rfl, hS⟩
        replace HS : Aside0 (Sep (fps []) w [] w3253) := ⟨HS.out.call hS⟩
        clear hS
        go_wp2_with fail
        obtain ⟨t3254, HA3255, H⟩ := bind_some H
        refine (ground_Ground_SetWord_nil.calls t2895.1 1 ((a2743) % 4294967296) t3254 _ ⟨HGl0.out.pass (l := []) HS.out⟩ ⟨Sep.start _⟩ HA3255).mono ?_
        rintro e_ w3256 ⟨rfl, hS⟩
        replace HS : Aside0 (Sep (fps []) w [] w3256) := ⟨HS.out.call hS⟩
        clear hS
        go_wp2_with fail
        obtain ⟨t3257, HA3258, H⟩ := bind_some H
        refine (ground_Ground_SetWord_nil.calls t2895.1 2 ((a2744) % 4294967296) t3257 _ ⟨HGl0.out.pass (l := []) HS.out⟩ ⟨Sep.start _⟩ HA3258).mono ?_
        rintro e_ w3259 ⟨rfl, hS⟩
        replace HS : Aside0 (Sep (fps []) w [] w3259) := ⟨HS.out.call hS⟩
        clear hS
        go_wp2_with fail
        obtain ⟨o3261, AL3262, H⟩ := bind_some H
        go_loopg [56] k (fun kq v56 wc => ∃ (x3265 : Int), v56 = .int .i64 x3265 ∧ Aside0 (obj_Make_nil.lo0 kq t2749 t2895 x3265 = some o3261) ∧ Aside0 (Sep (fps []) w [] wc))
        case atStart => exact ⟨(0), (by first | rfl | (simp [IntKind.wrap_u32]; done)), AL3262, ⟨HS.out⟩⟩
        case round =>
          clear AL3262 HS
          obtain ⟨x3265, rfl, AL3262, HS⟩ := hrel
          obtain ⟨w3263, rfl⟩ : ∃ x : World, x = wr := ⟨_, rfl⟩
          cases gk with
          | zero => exact absurd AL3262.out (by simp [obj_Make_nil.lo0])
          | succ k3264 =>
            have AL0 := AL3262.out
            rw [obj_Make_nil.lo0] at AL0
            clear AL3262
            have AL3262 := Aside0.mk AL0
            clear AL0
            by_cases c3266 : x3265 < (wrap64 (t2749.1 - 1))
            · have AL3262 := if_yes c3266 AL3262
              have c3266b0 : decide (x3265 < (wrap64 (t2749.1 - 1))) = true := decide_eq_true c3266
              clear c3266
              go_wp2_with fail
              obtain ⟨t3267, HA3268, AL3262⟩ := bind_some AL3262
              refine (pool_Take_nil.calls _ t3267 _ ⟨HGl0.out.pass (l := []) HS.out⟩ ⟨Sep.start _⟩ HA3268).mono ?_
              rintro e_ w3269 ⟨rfl, hS⟩
              replace HS : Aside0 (Sep (fps []) w [] w3269) := ⟨HS.out.call hS⟩
              clear hS
              go_wp2_with fail
              obtain ⟨t3270, HA3271, AL3262⟩ := bind_some AL3262
              refine (obj_mark_nil.calls _ t3267.1 3 0 0 0 0 0 t2895.1 t3270 _ ⟨HGl0.out.pass (l := []) HS.out⟩ ⟨Sep.start _⟩ HA3271).mono ?_
              rintro e_ w3272 ⟨rfl, hS⟩
              replace HS : Aside0 (Sep (fps []) w [] w3272) := ⟨HS.out.call hS⟩
              clear hS
              go_wp2_with fail
              obtain ⟨t3273, HA3274, AL3262⟩ := bind_some AL3262
              refine (ground_Ground_SetWord_nil.calls t2895.1 (wrap64 (8 + x3265)) ((wrap64 (t3267.1 + 1)) % 4294967296) t3273 _ ⟨HGl0.out.pass (l := []) HS.out⟩ ⟨Sep.start _⟩ HA3274).mono ?_
              rintro e_ w3275 ⟨rfl, hS⟩
              replace HS : Aside0 (Sep (fps []) w [] w3275) := ⟨HS.out.call hS⟩
              clear hS
              go_wp2_with fail
              go_roundg k3264
              case measure => exact Nat.lt_succ_self _
              case rel => exact ⟨(wrap64 (x3265 + 1)), (by first | rfl | (simp [IntKind.wrap_u32]; done)), Aside0.mk AL3262.out, ⟨HS.out⟩⟩
            · have AL3262 := if_no c3266 AL3262
              have c3266b0 : decide (x3265 < (wrap64 (t2749.1 - 1))) = false := decide_eq_false c3266
              clear c3266
              have ho := some_eq AL3262
              subst ho
              clear AL3262
              go_wp2_with fail
              go_ret2
              rw [← some_eq H]
              exact ⟨(by first | rfl | (simp [IntKind.wrap_u32]; done)), HS.out⟩
      · have H := if_no c2898 H
        have c2898b0 : decide (1 < t2749.1) = false := decide_eq_false c2898
        clear c2898
        go_wp2_with fail
        obtain ⟨t3251, HA3277, H⟩ := bind_some H
        refine (obj_mark_nil.calls _ t2895.1 1 0 0 0 0 0 0 t3251 _ ⟨HGl0.out.pass (l := []) HS.out⟩ ⟨Sep.start _⟩ HA3277).mono ?_
        rintro e_ w3278 ⟨rfl, hS⟩
        replace HS : Aside0 (Sep (fps []) w [] w3278) := ⟨HS.out.call hS⟩
        clear hS
        go_wp2_with fail
        obtain ⟨t3254, HA3279, H⟩ := bind_some H
        refine (ground_Ground_SetWord_nil.calls t2895.1 1 ((a2743) % 4294967296) t3254 _ ⟨HGl0.out.pass (l := []) HS.out⟩ ⟨Sep.start _⟩ HA3279).mono ?_
        rintro e_ w3280 ⟨rfl, hS⟩
        replace HS : Aside0 (Sep (fps []) w [] w3280) := ⟨HS.out.call hS⟩
        clear hS
        go_wp2_with fail
        obtain ⟨t3257, HA3281, H⟩ := bind_some H
        refine (ground_Ground_SetWord_nil.calls t2895.1 2 ((a2744) % 4294967296) t3257 _ ⟨HGl0.out.pass (l := []) HS.out⟩ ⟨Sep.start _⟩ HA3281).mono ?_
        rintro e_ w3282 ⟨rfl, hS⟩
        replace HS : Aside0 (Sep (fps []) w [] w3282) := ⟨HS.out.call hS⟩
        clear hS
        go_wp2_with fail
        obtain ⟨o3284, AL3285, H⟩ := bind_some H
        go_loopg [56] k (fun kq v56 wc => ∃ (x3288 : Int), v56 = .int .i64 x3288 ∧ Aside0 (obj_Make_nil.lo1 kq t2749 t2895 x3288 = some o3284) ∧ Aside0 (Sep (fps []) w [] wc))
        case atStart => exact ⟨(0), (by first | rfl | (simp [IntKind.wrap_u32]; done)), AL3285, ⟨HS.out⟩⟩
        case round =>
          clear AL3285 HS
          obtain ⟨x3288, rfl, AL3285, HS⟩ := hrel
          obtain ⟨w3286, rfl⟩ : ∃ x : World, x = wr := ⟨_, rfl⟩
          cases gk with
          | zero => exact absurd AL3285.out (by simp [obj_Make_nil.lo1])
          | succ k3287 =>
            have AL0 := AL3285.out
            rw [obj_Make_nil.lo1] at AL0
            clear AL3285
            have AL3285 := Aside0.mk AL0
            clear AL0
            by_cases c3289 : x3288 < (wrap64 (t2749.1 - 1))
            · have AL3285 := if_yes c3289 AL3285
              have c3289b0 : decide (x3288 < (wrap64 (t2749.1 - 1))) = true := decide_eq_true c3289
              clear c3289
              go_wp2_with fail
              obtain ⟨t3267, HA3290, AL3285⟩ := bind_some AL3285
              refine (pool_Take_nil.calls _ t3267 _ ⟨HGl0.out.pass (l := []) HS.out⟩ ⟨Sep.start _⟩ HA3290).mono ?_
              rintro e_ w3291 ⟨rfl, hS⟩
              replace HS : Aside0 (Sep (fps []) w [] w3291) := ⟨HS.out.call hS⟩
              clear hS
              go_wp2_with fail
              obtain ⟨t3270, HA3292, AL3285⟩ := bind_some AL3285
              refine (obj_mark_nil.calls _ t3267.1 3 0 0 0 0 0 t2895.1 t3270 _ ⟨HGl0.out.pass (l := []) HS.out⟩ ⟨Sep.start _⟩ HA3292).mono ?_
              rintro e_ w3293 ⟨rfl, hS⟩
              replace HS : Aside0 (Sep (fps []) w [] w3293) := ⟨HS.out.call hS⟩
              clear hS
              go_wp2_with fail
              obtain ⟨t3273, HA3294, AL3285⟩ := bind_some AL3285
              refine (ground_Ground_SetWord_nil.calls t2895.1 (wrap64 (8 + x3288)) ((wrap64 (t3267.1 + 1)) % 4294967296) t3273 _ ⟨HGl0.out.pass (l := []) HS.out⟩ ⟨Sep.start _⟩ HA3294).mono ?_
              rintro e_ w3295 ⟨rfl, hS⟩
              replace HS : Aside0 (Sep (fps []) w [] w3295) := ⟨HS.out.call hS⟩
              clear hS
              go_wp2_with fail
              go_roundg k3287
              case measure => exact Nat.lt_succ_self _
              case rel => exact ⟨(wrap64 (x3288 + 1)), (by first | rfl | (simp [IntKind.wrap_u32]; done)), Aside0.mk AL3285.out, ⟨HS.out⟩⟩
            · have AL3285 := if_no c3289 AL3285
              have c3289b0 : decide (x3288 < (wrap64 (t2749.1 - 1))) = false := decide_eq_false c3289
              clear c3289
              have ho := some_eq AL3285
              subst ho
              clear AL3285
              go_wp2_with fail
              go_ret2
              rw [← some_eq H]
              exact ⟨(by first | rfl | (simp [IntKind.wrap_u32]; done)), HS.out⟩
  · have H := if_no c2752 H
    have c2752b0 : (t2749.2 == 0) = false := beq_eq_false_iff_ne.mpr c2752
    have c2752b1 : (t2749.2 != 0) = true := bne_iff_ne.mpr c2752
    clear c2752
    go_wp2_with fail
    go_ret2
    rw [← some_eq H]
    exact ⟨(by first | rfl | (simp [IntKind.wrap_u32]; done)), HS.out⟩

set_option maxHeartbeats 30000000 in
set_option maxRecDepth 100000 in
theorem pool_Len.calls (l3383 : List Int) (a3388 : Int) (a3389 : Int) (a3390 : Int) (a3391 : Int) (a3392 : Int) (g3379 : Nat) (g3381 : Nat) (A3384 : Option Addr) (m3385 : Nat) (n3386 : Nat) (r : Int × Int) (w : World)  (HGl0 : Aside0 (Gl 0 #[.int .i64 0, .int .i64 0, .int .i64 0, .int .i64 0, .int .i64 0] (fps [b7 g3379 g3381 a3389 a3390 a3391 a3392, b6 g3381 A3384 m3385 n3386 a3388, r5 A3384 m3385 n3386 l3383]) w)) (HS : Aside0 (Sep (fps [b7 g3379 g3381 a3389 a3390 a3391 a3392, b6 g3381 A3384 m3385 n3386 a3388, r5 A3384 m3385 n3386 l3383]) w [b7 g3379 g3381 a3389 a3390 a3391 a3392, b6 g3381 A3384 m3385 n3386 a3388, r5 A3384 m3385 n3386 l3383] w)) (H : Aside0 (pool_Len.f l3383 a3388 a3389 a3390 a3391 a3392 = some r)) :
    Calls Tryd.prog 44 #[.pointer (some ⟨g3379, 0, none⟩)] w fun e w' => e = .returned (.int .i64 r.1) ∧ Sep (fps [b7 g3379 g3381 a3389 a3390 a3391 a3392, b6 g3381 A3384 m3385 n3386 a3388, r5 A3384 m3385 n3386 l3383]) w [b7 g3379 g3381 a3389 a3390 a3391 a3392, b6 g3381 A3384 m3385 n3386 r.2, r5 A3384 m3385 n3386 l3383] w' := by
  generalize (fps [b7 g3379 g3381 a3389 a3390 a3391 a3392, b6 g3381 A3384 m3385 n3386 a3388, r5 A3384 m3385 n3386 l3383]) = FF at HS HGl0 ⊢
  obtain rfl := (row_len (HS.out.at2)).symm
  unfold pool_Len.f at H
  go_enter Tryd.func44, Tryd.ntmps44
  go_wp2_with fail
  obtain ⟨t3396, HA3397, H⟩ := bind_some H
  refine (chain_Len.calls l3383 a3388 a3389 a3390 a3391 a3392 0 g3379 g3381 A3384 l3383.length n3386 t3396 _ ⟨HGl0.out.pass HS.out⟩ ⟨HS.out.begin⟩ HA3397).mono ?_
  rintro e_ w3398 ⟨rfl, hS⟩
  replace HS : Aside0 (Sep FF w [b7 g3379 g3381 a3389 a3390 a3391 a3392, b6 g3381 A3384 l3383.length n3386 t3396.2, r5 A3384 l3383.length n3386 l3383] w3398) := ⟨HS.out.call hS⟩
  clear hS
  go_wp2_with fail
  go_ret
  rw [← some_eq H]
  exact ⟨(by first | rfl | (simp [IntKind.wrap_u32]; done)), HS.out⟩

set_option maxHeartbeats 30000000 in
set_option maxRecDepth 100000 in
theorem ground_Ground_Word.calls (l3489 : List Int) (a3494 : Int) (a3495 : Int) (a3496 : Int) (a3497 : Int) (a3498 : Int) (a3499 : Int) (a3500 : Int) (g3485 : Nat) (g3487 : Nat) (A3490 : Option Addr) (m3491 : Nat) (n3492 : Nat) (r : Int × Int) (w : World)  (HGl0 : Aside0 (Gl 0 #[.int .i64 0, .int .i64 0, .int .i64 0, .int .i64 0, .int .i64 0] (fps [b7 g3485 g3487 a3495 a3496 a3497 a3498, b6 g3487 A3490 m3491 n3492 a3494, r5 A3490 m3491 n3492 l3489]) w)) (HS : Aside0 (Sep (fps [b7 g3485 g3487 a3495 a3496 a3497 a3498, b6 g3487 A3490 m3491 n3492 a3494, r5 A3490 m3491 n3492 l3489]) w [b7 g3485 g3487 a3495 a3496 a3497 a3498, b6 g3487 A3490 m3491 n3492 a3494, r5 A3490 m3491 n3492 l3489] w)) (H : Aside0 (ground_Ground_Word.f l3489 a3494 a3495 a3496 a3497 a3498 a3499 a3500 = some r)) :
    Calls Tryd.prog 84 #[.pointer (some ⟨g3485, 0, none⟩), .int .i64 a3499, .int .i64 a3500] w fun e w' => e = .returned (.int .u32 r.1) ∧ Sep (fps [b7 g3485 g3487 a3495 a3496 a3497 a3498, b6 g3487 A3490 m3491 n3492 a3494, r5 A3490 m3491 n3492 l3489]) w [b7 g3485 g3487 a3495 a3496 a3497 a3498, b6 g3487 A3490 m3491 n3492 r.2, r5 A3490 m3491 n3492 l3489] w' := by
  generalize (fps [b7 g3485 g3487 a3495 a3496 a3497 a3498, b6 g3487 A3490 m3491 n3492 a3494, r5 A3490 m3491 n3492 l3489]) = FF at HS HGl0 ⊢
  obtain rfl := (row_len (HS.out.at2)).symm
  unfold ground_Ground_Word.f at H
  go_enter Tryd.func84, Tryd.ntmps84
  go_wp2_with fail
  obtain ⟨t3510, HA3511, H⟩ := bind_some H
  refine (ground_Ground_all.calls l3489 a3494 a3495 a3496 a3497 a3498 g3485 g3487 A3490 l3489.length n3492 t3510 _ ⟨HGl0.out.pass HS.out⟩ ⟨HS.out.begin⟩ HA3511).mono ?_
  rintro e_ w3512 ⟨rfl, hS⟩
  replace HS : Aside0 (Sep FF w [b7 g3485 g3487 a3495 a3496 a3497 a3498, b6 g3487 A3490 l3489.length n3492 a3494, r5 A3490 l3489.length n3492 l3489] w3512) := ⟨HS.out.call hS⟩
  clear hS
  go_wp2_with fail
  obtain ⟨t3513, HA3514, H⟩ := bind_some H
  refine (ground_Ground_word.calls l3489 a3494 a3495 a3496 a3497 a3498 a3499 a3500 g3485 g3487 A3490 l3489.length n3492 t3513 _ ⟨HGl0.out.pass HS.out⟩ ⟨HS.out.begin⟩ HA3514).mono ?_
  rintro e_ w3515 ⟨rfl, hS⟩
  replace HS : Aside0 (Sep FF w [b7 g3485 g3487 a3495 a3496 a3497 a3498, b6 g3487 A3490 l3489.length n3492 a3494, r5 A3490 l3489.length n3492 l3489] w3515) := ⟨HS.out.call hS⟩
  clear hS
  go_wp2_with fail
  replace HS : Aside0 (Sep FF w [r5 A3490 l3489.length n3492 l3489, b7 g3485 g3487 a3495 a3496 a3497 a3498, b6 g3487 A3490 l3489.length n3492 a3494] w3515) := ⟨HS.out.front 2 (by simp)⟩
  replace HS : Aside0 (Sep FF w [b6 g3487 A3490 l3489.length n3492 a3494, r5 A3490 l3489.length n3492 l3489, b7 g3485 g3487 a3495 a3496 a3497 a3498] w3515) := ⟨HS.out.front 2 (by simp)⟩
  obtain ⟨t3516, HA3517, H⟩ := bind_some H
  refine (store_Store_Get.calls l3489 a3494 t3513 g3487 A3490 l3489.length n3492 t3516 _ ⟨HGl0.out.pass HS.out⟩ ⟨HS.out.begin⟩ HA3517).mono ?_
  rintro e_ w3518 ⟨rfl, hS⟩
  replace HS : Aside0 (Sep FF w [b6 g3487 A3490 l3489.length n3492 t3516.2, r5 A3490 l3489.length n3492 l3489, b7 g3485 g3487 a3495 a3496 a3497 a3498] w3518) := ⟨HS.out.call hS⟩
  clear hS
  go_wp2_with fail
  go_ret
  rw [← some_eq H]
  exact ⟨(by first | rfl | (simp [IntKind.wrap_u32]; done)), ((((HS.out).front 1 (by simp)).front 1 (by simp)).front 2 (by simp)).keep (l := [b7 g3485 g3487 a3495 a3496 a3497 a3498, b6 g3487 A3490 l3489.length n3492 t3516.2, r5 A3490 l3489.length n3492 l3489]) (rest := [])⟩

set_option maxHeartbeats 30000000 in
set_option maxRecDepth 100000 in
theorem chain_Take.calls (l3435 : List Int) (a3440 : Int) (a3441 : Int) (a3442 : Int) (a3443 : Int) (a3444 : Int) (a3445 : Int) (g3431 : Nat) (g3433 : Nat) (A3436 : Option Addr) (m3437 : Nat) (n3438 : Nat) (r : Int × Bool × Int × List Int) (w : World)  (HGl0 : Aside0 (Gl 0 #[.int .i64 0, .int .i64 0, .int .i64 0, .int .i64 0, .int .i64 0] (fps [b7 g3431 g3433 a3441 a3442 a3443 a3444, b6 g3433 A3436 m3437 n3438 a3440, r5 A3436 m3437 n3438 l3435]) w)) (HS : Aside0 (Sep (fps [b7 g3431 g3433 a3441 a3442 a3443 a3444, b6 g3433 A3436 m3437 n3438 a3440, r5 A3436 m3437 n3438 l3435]) w [b7 g3431 g3433 a3441 a3442 a3443 a3444, b6 g3433 A3436 m3437 n3438 a3440, r5 A3436 m3437 n3438 l3435] w)) (H : Aside0 (chain_Take.f l3435 a3440 a3441 a3442 a3443 a3444 a3445 = some r)) :
    Calls Tryd.prog 135 #[.pointer (some ⟨g3431, 0, none⟩), .int .i64 a3445] w fun e w' => e = .returned (.tuple #[.int .i64 r.1, .bool r.2.1]) ∧ Sep (fps [b7 g3431 g3433 a3441 a3442 a3443 a3444, b6 g3433 A3436 m3437 n3438 a3440, r5 A3436 m3437 n3438 l3435]) w [b7 g3431 g3433 a3441 a3442 a3443 a3444, b6 g3433 A3436 m3437 n3438 r.2.2.1, r5 A3436 m3437 n3438 r.2.2.2] w' := by
  generalize (fps [b7 g3431 g3433 a3441 a3442 a3443 a3444, b6 g3433 A3436 m3437 n3438 a3440, r5 A3436 m3437 n3438 l3435]) = FF at HS HGl0 ⊢
  obtain rfl := (row_len (HS.out.at2)).symm
  unfold chain_Take.f at H
  go_enter Tryd.func135, Tryd.ntmps135
  go_wp2_with fail
  obtain ⟨t3542, HA3543, H⟩ := bind_some H
  refine (chain_of.calls l3435 a3440 a3441 a3442 a3443 a3444 a3445 g3431 g3433 A3436 l3435.length n3438 t3542 _ ⟨HGl0.out.pass HS.out⟩ ⟨HS.out.begin⟩ HA3543).mono ?_
  rintro e_ w3544 ⟨rfl, hS⟩
  replace HS : Aside0 (Sep FF w [b7 g3431 g3433 a3441 a3442 a3443 a3444, b6 g3433 A3436 l3435.length n3438 a3440, r5 A3436 l3435.length n3438 l3435] w3544) := ⟨HS.out.call hS⟩
  clear hS
  by_cases c3555 : t3542.2.2.2 = true
  · have H := if_yes c3555 H
    have c3555b0 : t3542.2.2.2 = true := c3555
    have c3555b1 : (!t3542.2.2.2) = false := by rw [c3555b0]; rfl
    try rw [c3555b1]
    clear c3555
    go_wp2_with (first | ((with_reducible refine gate_dst (N := 6) rfl ?_); refine box_on ?hg (N := 6) ?hd (cs := #[.int .i64 0, .int .i64 0, .int .i64 0]) (t := 166) ?hr ?_; (case hd => rfl); (case hg => rfl); (case hr => first | (go_simp; done) | (go_simp; rfl)); intro g3545 hg w3546 hbox hb; replace HS : Aside0 (Sep FF w [b7 g3431 g3433 a3441 a3442 a3443 a3444, b6 g3433 A3436 l3435.length n3438 a3440, r5 A3436 l3435.length n3438 l3435, b8 g3545 0 0 0] w3546) := ⟨HS.out.box hg hbox hb⟩; clear hg hbox hb; have hc3548 : w3546.cell? ⟨g3545, 0, none⟩ = some (.int .i64 0) := blk_cellv (HS.out.at3) 0 rfl; have hz3549 : w3546.frozen? ⟨g3545, 0, none⟩ = false := blk_fz (HS.out.at3) 0; have hc3550 : w3546.cell? ⟨g3545, 1, none⟩ = some (.int .i64 0) := blk_cellv (HS.out.at3) 1 rfl; have hz3551 : w3546.frozen? ⟨g3545, 1, none⟩ = false := blk_fz (HS.out.at3) 1; have hc3552 : w3546.cell? ⟨g3545, 2, none⟩ = some (.int .i64 0) := blk_cellv (HS.out.at3) 2 rfl; have hz3553 : w3546.frozen? ⟨g3545, 2, none⟩ = false := blk_fz (HS.out.at3) 2) | ((with_reducible refine gate_store (t := 166) (p := 6) rfl ?_); refine store_event (w1 := (World.setCell (World.setCell (World.setCell w3546 ⟨g3545, 0, none⟩ (.int .i64 t3542.1)) ⟨g3545, 1, none⟩ (.int .i64 t3542.2.1)) ⟨g3545, 2, none⟩ (.int .i64 t3542.2.2.1))) rfl (t := 166) (p := 6) rfl rfl ?hr ?_; (case hr => first | (go_simp; done) | (go_simp; rfl)); intro w3554 hst; clear hc3548 hz3549 hc3550 hz3551 hc3552 hz3553; replace HS : Aside0 (Sep FF w [b7 g3431 g3433 a3441 a3442 a3443 a3444, b6 g3433 A3436 l3435.length n3438 a3440, r5 A3436 l3435.length n3438 l3435, b8 g3545 t3542.1 t3542.2.1 t3542.2.2.1] w3554) := ⟨by rw [hst]; exact HS.out.setAll (l1 := [b7 g3431 g3433 a3441 a3442 a3443 a3444, b6 g3433 A3436 l3435.length n3438 a3440, r5 A3436 l3435.length n3438 l3435]) (l2 := []) [.int .i64 t3542.1, .int .i64 t3542.2.1, .int .i64 t3542.2.2.1] rfl⟩; clear hst; have hc3556 : w3554.cell? ⟨g3545, 0, none⟩ = some (.int .i64 t3542.1) := blk_cellv (HS.out.at3) 0 rfl))
    clear hc3556
    obtain ⟨t3557, HA3558, H⟩ := bind_some H
    refine (ground_Ground_Reg.calls l3435 a3440 a3441 a3442 a3443 a3444 t3542.1 g3431 g3433 A3436 l3435.length n3438 t3557 _ ⟨HGl0.out.pass HS.out⟩ ⟨HS.out.begin⟩ HA3558).mono ?_
    rintro e_ w3559 ⟨rfl, hS⟩
    replace HS : Aside0 (Sep FF w [b7 g3431 g3433 a3441 a3442 a3443 a3444, b6 g3433 A3436 l3435.length n3438 t3557.2, r5 A3436 l3435.length n3438 l3435, b8 g3545 t3542.1 t3542.2.1 t3542.2.2.1] w3559) := ⟨HS.out.call hS⟩
    clear hS
    by_cases c3560 : t3557.1 = 0
    · have H := if_yes c3560 H
      have c3560b0 : (t3557.1 == 0) = true := beq_iff_eq.mpr c3560
      have c3560b1 : (t3557.1 != 0) = false := bne_eq_false_iff_eq.mpr c3560
      clear c3560
      replace HS : Aside0 (Sep FF w [b7 g3431 g3433 a3441 a3442 a3443 a3444, b6 g3433 A3436 l3435.length n3438 t3557.2, r5 A3436 l3435.length n3438 l3435] w3559) := ⟨HS.out.sub (.cons_cons _ (.cons_cons _ (.cons_cons _ (.cons _ .slnil))))⟩
      go_wp2_with fail
      go_ret2
      rw [← some_eq H]
      exact ⟨(by first | rfl | (simp [IntKind.wrap_u32]; done)), HS.out⟩
    · have H := if_no c3560 H
      have c3560b0 : (t3557.1 == 0) = false := beq_eq_false_iff_ne.mpr c3560
      have c3560b1 : (t3557.1 != 0) = true := bne_iff_ne.mpr c3560
      clear c3560
      go_wp2_with fail
      obtain ⟨t3561, HA3562, H⟩ := bind_some H
      refine (ground_Ground_Word.calls l3435 t3557.2 a3441 a3442 a3443 a3444 (wrap64 (t3557.1 - 1)) 5 g3431 g3433 A3436 l3435.length n3438 t3561 _ ⟨HGl0.out.pass HS.out⟩ ⟨HS.out.begin⟩ HA3562).mono ?_
      rintro e_ w3563 ⟨rfl, hS⟩
      replace HS : Aside0 (Sep FF w [b7 g3431 g3433 a3441 a3442 a3443 a3444, b6 g3433 A3436 l3435.length n3438 t3561.2, r5 A3436 l3435.length n3438 l3435, b8 g3545 t3542.1 t3542.2.1 t3542.2.2.1] w3563) := ⟨HS.out.call hS⟩
      clear hS
      go_wp2_with fail
      obtain ⟨t3564, HA3565, H⟩ := bind_some H
      refine (ground_Ground_SetWord.calls l3435 t3561.2 a3441 a3442 a3443 a3444 (wrap64 (t3557.1 - 1)) 5 0 g3431 g3433 A3436 l3435.length n3438 t3564 _ ⟨HGl0.out.pass HS.out⟩ ⟨HS.out.begin⟩ HA3565).mono ?_
      rintro e_ w3566 ⟨rfl, hS⟩
      replace HS : Aside0 (Sep FF w [b7 g3431 g3433 a3441 a3442 a3443 a3444, b6 g3433 A3436 l3435.length n3438 t3564.2.1, r5 A3436 l3435.length n3438 t3564.2.2, b8 g3545 t3542.1 t3542.2.1 t3542.2.2.1] w3566) := ⟨HS.out.call hS⟩
      clear hS
      have hc3567 : w3566.cell? ⟨g3545, 0, none⟩ = some (.int .i64 t3542.1) := blk_cellv (HS.out.at3) 0 rfl
      go_wp2_with fail
      clear hc3567
      obtain ⟨t3568, HA3569, H⟩ := bind_some H
      refine (ground_Ground_SetReg.calls t3564.2.2 t3564.2.1 a3441 a3442 a3443 a3444 t3542.1 (wrap64 (t3561.1)) g3431 g3433 A3436 l3435.length n3438 t3568 _ ⟨HGl0.out.pass HS.out⟩ ⟨HS.out.begin⟩ HA3569).mono ?_
      rintro e_ w3570 ⟨rfl, hS⟩
      replace HS : Aside0 (Sep FF w [b7 g3431 g3433 a3441 a3442 a3443 a3444, b6 g3433 A3436 l3435.length n3438 t3568.2.1, r5 A3436 l3435.length n3438 t3568.2.2, b8 g3545 t3542.1 t3542.2.1 t3542.2.2.1] w3570) := ⟨HS.out.call hS⟩
      clear hS
      by_cases c3571 : (wrap64 (t3561.1)) = 0
      · have H := if_yes c3571 H
        have c3571b0 : ((wrap64 (t3561.1)) == 0) = true := beq_iff_eq.mpr c3571
        have c3571b1 : ((wrap64 (t3561.1)) != 0) = false := bne_eq_false_iff_eq.mpr c3571
        clear c3571
        have hc3572 : w3570.cell? ⟨g3545, 1, none⟩ = some (.int .i64 t3542.2.1) := blk_cellv (HS.out.at3) 1 rfl
        go_wp2_with fail
        clear hc3572
        obtain ⟨t3573, HA3574, H⟩ := bind_some H
        refine (ground_Ground_SetReg.calls t3568.2.2 t3568.2.1 a3441 a3442 a3443 a3444 t3542.2.1 0 g3431 g3433 A3436 l3435.length n3438 t3573 _ ⟨HGl0.out.pass HS.out⟩ ⟨HS.out.begin⟩ HA3574).mono ?_
        rintro e_ w3575 ⟨rfl, hS⟩
        replace HS : Aside0 (Sep FF w [b7 g3431 g3433 a3441 a3442 a3443 a3444, b6 g3433 A3436 l3435.length n3438 t3573.2.1, r5 A3436 l3435.length n3438 t3573.2.2, b8 g3545 t3542.1 t3542.2.1 t3542.2.2.1] w3575) := ⟨HS.out.call hS⟩
        clear hS
        go_wp2_with fail
        refine start_ (n := 9) (S := (fun w' => w'.cell? ⟨g3545, 2, none⟩ = some (.int .i64 t3542.2.2.1))) (ds := []) #[false, false, false, false, false, false, false, false, false] (by kernel_rfl) rfl rfl (blk_cellv ((HS.out.drew).at3) 2 rfl) (fun hHeld => ?_)
        have HS_ := Aside0.mk HS.out.drew
        clear HS
        generalize World.drew _ = w3577 at HS_ hHeld ⊢
        have HS := HS_
        clear HS_
        refine pure_ (i := 0) (N := some 44) (v := ?_) (a' := ?_) #[true, false, false, false, false, false, false, false, false] rfl rfl (by kernel_rfl) (fun _ _ _ h => h) (Or.inl ⟨by rfl, ?_⟩) ?_ ?_
        rotate_left
        · intro w'
          go_simp
          with_reducible rfl
        rotate_left
        · simp only [Act.put, List.setIfInBounds_toArray, List.set_cons_zero, List.set_cons_succ, i64_w, i32_w]
          rfl
        refine pure_ (i := 1) (N := some 45) (v := ?_) (a' := ?_) #[true, true, false, false, false, false, false, false, false] rfl rfl (by kernel_rfl) (fun _ _ _ h => h) (Or.inl ⟨by rfl, ?_⟩) ?_ ?_
        rotate_left
        · intro w'
          go_simp
          with_reducible rfl
        rotate_left
        · simp only [Act.put, List.setIfInBounds_toArray, List.set_cons_zero, List.set_cons_succ, i64_w, i32_w]
          rfl
        refine pure_ (i := 3) (N := some 47) (v := ?_) (a' := ?_) #[true, true, false, true, false, false, false, false, false] rfl rfl (by kernel_rfl) (fun _ _ _ h => h) (Or.inl ⟨by rfl, ?_⟩) ?_ ?_
        rotate_left
        · intro w'
          go_simp
          with_reducible rfl
        rotate_left
        · simp only [Act.put, List.setIfInBounds_toArray, List.set_cons_zero, List.set_cons_succ, i64_w, i32_w]
          rfl
        refine pure_ (i := 4) (N := some 48) (v := ?_) (a' := ?_) #[true, true, false, true, true, false, false, false, false] rfl rfl (by kernel_rfl) (fun _ _ _ h => h) (Or.inl ⟨by rfl, ?_⟩) ?_ ?_
        rotate_left
        · intro w'
          go_simp
          with_reducible rfl
        rotate_left
        · simp only [Act.put, List.setIfInBounds_toArray, List.set_cons_zero, List.set_cons_succ, i64_w, i32_w]
          rfl
        refine take_ (i := 2) (N := some 46) (v := ?_) (a' := ?_) #[true, true, true, true, true, false, false, false, false] rfl rfl (by kernel_rfl) (fun _ _ _ h => h) (Or.inl ⟨by rfl, ?_⟩) hHeld ?_ ?_
        rotate_left
        · rintro w' hS'
          have s0 := hS'
          go_simp
          with_reducible rfl
        rotate_left
        · simp only [Act.put, List.setIfInBounds_toArray, List.set_cons_zero, List.set_cons_succ, i64_w, i32_w]
          rfl
        refine take_ (i := 5) (N := some 49) (v := ?_) (a' := ?_) #[true, true, true, true, true, true, false, false, false] rfl rfl (by kernel_rfl) (fun _ _ _ h => h) (Or.inl ⟨by rfl, ?_⟩) hHeld ?_ ?_
        rotate_left
        · rintro w' hS'
          have s0 := hS'
          go_simp
          with_reducible rfl
        rotate_left
        · simp only [Act.put, List.setIfInBounds_toArray, List.set_cons_zero, List.set_cons_succ, i64_w, i32_w]
          rfl
        refine one_ (i := 6) (N := some 50) #[true, true, true, true, true, true, true, false, false] rfl rfl (by kernel_rfl) (by decide) (fun K hK => ?_)
        obtain ⟨t3578, HA3579, H⟩ := bind_some H
        refine goes_ Tryd.func81 (by kernel_rfl) rfl #[.pointer (some ⟨g3431, 0, none⟩), .int .i64 t3542.2.2.1] (by rfl) rfl rfl (by (try simp only [List.map_toArray, List.map_cons, List.map_nil]); first | done | rfl) ?_
        refine (ground_Ground_Reg.calls t3573.2.2 t3573.2.1 a3441 a3442 a3443 a3444 t3542.2.2.1 g3431 g3433 A3436 l3435.length n3438 t3578 _ ⟨HGl0.out.pass HS.out⟩ ⟨HS.out.begin⟩ HA3579).mono ?_
        rintro e_ w3580 ⟨rfl, hS⟩
        replace HS : Aside0 (Sep FF w [b7 g3431 g3433 a3441 a3442 a3443 a3444, b6 g3433 A3436 l3435.length n3438 t3578.2, r5 A3436 l3435.length n3438 t3573.2.2, b8 g3545 t3542.1 t3542.2.1 t3542.2.2.1] w3580) := ⟨HS.out.call hS⟩
        clear hS
        refine ⟨_, rfl, ?_⟩
        refine hK.out _ _ (blk_cellv (HS.out.at3) 2 rfl) (fun hHeld => ?_)
        clear hK K
        refine norm_ (a' := ?_) ?_ ?_
        rotate_left
        · show Act.put _ (some 50) _ = _
          simp only [Act.put, List.setIfInBounds_toArray, List.set_cons_zero, List.set_cons_succ, i64_w, i32_w]
          rfl
        refine pure_ (i := 7) (N := some 51) (v := ?_) (a' := ?_) #[true, true, true, true, true, true, true, true, false] rfl rfl (by kernel_rfl) (fun _ _ _ h => h) (Or.inl ⟨by rfl, ?_⟩) ?_ ?_
        rotate_left
        · intro w'
          go_simp
          with_reducible rfl
        rotate_left
        · simp only [Act.put, List.setIfInBounds_toArray, List.set_cons_zero, List.set_cons_succ, i64_w, i32_w]
          rfl
        refine one_ (i := 8) (N := some 52) #[true, true, true, true, true, true, true, true, true] rfl rfl (by kernel_rfl) (by decide) (fun K hK => ?_)
        obtain ⟨t3581, HA3582, H⟩ := bind_some H
        refine goes_ Tryd.func83 (by kernel_rfl) rfl #[.pointer (some ⟨g3431, 0, none⟩), .int .i64 t3542.2.2.1, .int .i64 (wrap64 (t3578.1 - 1))] (by rfl) rfl rfl (by (try simp only [List.map_toArray, List.map_cons, List.map_nil]); first | done | rfl) ?_
        refine (ground_Ground_SetReg.calls t3573.2.2 t3578.2 a3441 a3442 a3443 a3444 t3542.2.2.1 (wrap64 (t3578.1 - 1)) g3431 g3433 A3436 l3435.length n3438 t3581 _ ⟨HGl0.out.pass HS.out⟩ ⟨HS.out.begin⟩ HA3582).mono ?_
        rintro e_ w3583 ⟨rfl, hS⟩
        replace HS : Aside0 (Sep FF w [b7 g3431 g3433 a3441 a3442 a3443 a3444, b6 g3433 A3436 l3435.length n3438 t3581.2.1, r5 A3436 l3435.length n3438 t3581.2.2, b8 g3545 t3542.1 t3542.2.1 t3542.2.2.1] w3583) := ⟨HS.out.call hS⟩
        clear hS
        refine ⟨_, rfl, ?_⟩
        refine hK.out _ _ (blk_cellv (HS.out.at3) 2 rfl) (fun hHeld => ?_)
        clear hK K
        refine norm_ (a' := ?_) ?_ ?_
        rotate_left
        · show Act.put _ (some 52) _ = _
          simp only [Act.put, List.setIfInBounds_toArray, List.set_cons_zero, List.set_cons_succ, i64_w, i32_w]
          rfl
        refine done_ (by kernel_rfl) ?_
        replace HS : Aside0 (Sep FF w [b7 g3431 g3433 a3441 a3442 a3443 a3444, b6 g3433 A3436 l3435.length n3438 t3581.2.1, r5 A3436 l3435.length n3438 t3581.2.2] w3583) := ⟨HS.out.sub (.cons_cons _ (.cons_cons _ (.cons_cons _ (.cons _ .slnil))))⟩
        go_wp2_with fail
        go_ret2
        rw [← some_eq H]
        exact ⟨(by first | rfl | (simp [IntKind.wrap_u32]; done)), HS.out⟩
      · have H := if_no c3571 H
        have c3571b0 : ((wrap64 (t3561.1)) == 0) = false := beq_eq_false_iff_ne.mpr c3571
        have c3571b1 : ((wrap64 (t3561.1)) != 0) = true := bne_iff_ne.mpr c3571
        clear c3571
        go_wp2_with fail
        refine start_ (n := 9) (S := (fun w' => w'.cell? ⟨g3545, 2, none⟩ = some (.int .i64 t3542.2.2.1))) (ds := []) #[false, false, false, false, false, false, false, false, false] (by kernel_rfl) rfl rfl (blk_cellv ((HS.out.drew).at3) 2 rfl) (fun hHeld => ?_)
        have HS_ := Aside0.mk HS.out.drew
        clear HS
        generalize World.drew _ = w3585 at HS_ hHeld ⊢
        have HS := HS_
        clear HS_
        refine pure_ (i := 0) (N := some 44) (v := ?_) (a' := ?_) #[true, false, false, false, false, false, false, false, false] rfl rfl (by kernel_rfl) (fun _ _ _ h => h) (Or.inl ⟨by rfl, ?_⟩) ?_ ?_
        rotate_left
        · intro w'
          go_simp
          with_reducible rfl
        rotate_left
        · simp only [Act.put, List.setIfInBounds_toArray, List.set_cons_zero, List.set_cons_succ, i64_w, i32_w]
          rfl
        refine pure_ (i := 1) (N := some 45) (v := ?_) (a' := ?_) #[true, true, false, false, false, false, false, false, false] rfl rfl (by kernel_rfl) (fun _ _ _ h => h) (Or.inl ⟨by rfl, ?_⟩) ?_ ?_
        rotate_left
        · intro w'
          go_simp
          with_reducible rfl
        rotate_left
        · simp only [Act.put, List.setIfInBounds_toArray, List.set_cons_zero, List.set_cons_succ, i64_w, i32_w]
          rfl
        refine pure_ (i := 3) (N := some 47) (v := ?_) (a' := ?_) #[true, true, false, true, false, false, false, false, false] rfl rfl (by kernel_rfl) (fun _ _ _ h => h) (Or.inl ⟨by rfl, ?_⟩) ?_ ?_
        rotate_left
        · intro w'
          go_simp
          with_reducible rfl
        rotate_left
        · simp only [Act.put, List.setIfInBounds_toArray, List.set_cons_zero, List.set_cons_succ, i64_w, i32_w]
          rfl
        refine pure_ (i := 4) (N := some 48) (v := ?_) (a' := ?_) #[true, true, false, true, true, false, false, false, false] rfl rfl (by kernel_rfl) (fun _ _ _ h => h) (Or.inl ⟨by rfl, ?_⟩) ?_ ?_
        rotate_left
        · intro w'
          go_simp
          with_reducible rfl
        rotate_left
        · simp only [Act.put, List.setIfInBounds_toArray, List.set_cons_zero, List.set_cons_succ, i64_w, i32_w]
          rfl
        refine take_ (i := 2) (N := some 46) (v := ?_) (a' := ?_) #[true, true, true, true, true, false, false, false, false] rfl rfl (by kernel_rfl) (fun _ _ _ h => h) (Or.inl ⟨by rfl, ?_⟩) hHeld ?_ ?_
        rotate_left
        · rintro w' hS'
          have s0 := hS'
          go_simp
          with_reducible rfl
        rotate_left
        · simp only [Act.put, List.setIfInBounds_toArray, List.set_cons_zero, List.set_cons_succ, i64_w, i32_w]
          rfl
        refine take_ (i := 5) (N := some 49) (v := ?_) (a' := ?_) #[true, true, true, true, true, true, false, false, false] rfl rfl (by kernel_rfl) (fun _ _ _ h => h) (Or.inl ⟨by rfl, ?_⟩) hHeld ?_ ?_
        rotate_left
        · rintro w' hS'
          have s0 := hS'
          go_simp
          with_reducible rfl
        rotate_left
        · simp only [Act.put, List.setIfInBounds_toArray, List.set_cons_zero, List.set_cons_succ, i64_w, i32_w]
          rfl
        refine one_ (i := 6) (N := some 50) #[true, true, true, true, true, true, true, false, false] rfl rfl (by kernel_rfl) (by decide) (fun K hK => ?_)
        obtain ⟨t3578, HA3586, H⟩ := bind_some H
        refine goes_ Tryd.func81 (by kernel_rfl) rfl #[.pointer (some ⟨g3431, 0, none⟩), .int .i64 t3542.2.2.1] (by rfl) rfl rfl (by (try simp only [List.map_toArray, List.map_cons, List.map_nil]); first | done | rfl) ?_
        refine (ground_Ground_Reg.calls t3568.2.2 t3568.2.1 a3441 a3442 a3443 a3444 t3542.2.2.1 g3431 g3433 A3436 l3435.length n3438 t3578 _ ⟨HGl0.out.pass HS.out⟩ ⟨HS.out.begin⟩ HA3586).mono ?_
        rintro e_ w3587 ⟨rfl, hS⟩
        replace HS : Aside0 (Sep FF w [b7 g3431 g3433 a3441 a3442 a3443 a3444, b6 g3433 A3436 l3435.length n3438 t3578.2, r5 A3436 l3435.length n3438 t3568.2.2, b8 g3545 t3542.1 t3542.2.1 t3542.2.2.1] w3587) := ⟨HS.out.call hS⟩
        clear hS
        refine ⟨_, rfl, ?_⟩
        refine hK.out _ _ (blk_cellv (HS.out.at3) 2 rfl) (fun hHeld => ?_)
        clear hK K
        refine norm_ (a' := ?_) ?_ ?_
        rotate_left
        · show Act.put _ (some 50) _ = _
          simp only [Act.put, List.setIfInBounds_toArray, List.set_cons_zero, List.set_cons_succ, i64_w, i32_w]
          rfl
        refine pure_ (i := 7) (N := some 51) (v := ?_) (a' := ?_) #[true, true, true, true, true, true, true, true, false] rfl rfl (by kernel_rfl) (fun _ _ _ h => h) (Or.inl ⟨by rfl, ?_⟩) ?_ ?_
        rotate_left
        · intro w'
          go_simp
          with_reducible rfl
        rotate_left
        · simp only [Act.put, List.setIfInBounds_toArray, List.set_cons_zero, List.set_cons_succ, i64_w, i32_w]
          rfl
        refine one_ (i := 8) (N := some 52) #[true, true, true, true, true, true, true, true, true] rfl rfl (by kernel_rfl) (by decide) (fun K hK => ?_)
        obtain ⟨t3581, HA3588, H⟩ := bind_some H
        refine goes_ Tryd.func83 (by kernel_rfl) rfl #[.pointer (some ⟨g3431, 0, none⟩), .int .i64 t3542.2.2.1, .int .i64 (wrap64 (t3578.1 - 1))] (by rfl) rfl rfl (by (try simp only [List.map_toArray, List.map_cons, List.map_nil]); first | done | rfl) ?_
        refine (ground_Ground_SetReg.calls t3568.2.2 t3578.2 a3441 a3442 a3443 a3444 t3542.2.2.1 (wrap64 (t3578.1 - 1)) g3431 g3433 A3436 l3435.length n3438 t3581 _ ⟨HGl0.out.pass HS.out⟩ ⟨HS.out.begin⟩ HA3588).mono ?_
        rintro e_ w3589 ⟨rfl, hS⟩
        replace HS : Aside0 (Sep FF w [b7 g3431 g3433 a3441 a3442 a3443 a3444, b6 g3433 A3436 l3435.length n3438 t3581.2.1, r5 A3436 l3435.length n3438 t3581.2.2, b8 g3545 t3542.1 t3542.2.1 t3542.2.2.1] w3589) := ⟨HS.out.call hS⟩
        clear hS
        refine ⟨_, rfl, ?_⟩
        refine hK.out _ _ (blk_cellv (HS.out.at3) 2 rfl) (fun hHeld => ?_)
        clear hK K
        refine norm_ (a' := ?_) ?_ ?_
        rotate_left
        · show Act.put _ (some 52) _ = _
          simp only [Act.put, List.setIfInBounds_toArray, List.set_cons_zero, List.set_cons_succ, i64_w, i32_w]
          rfl
        refine done_ (by kernel_rfl) ?_
        replace HS : Aside0 (Sep FF w [b7 g3431 g3433 a3441 a3442 a3443 a3444, b6 g3433 A3436 l3435.length n3438 t3581.2.1, r5 A3436 l3435.length n3438 t3581.2.2] w3589) := ⟨HS.out.sub (.cons_cons _ (.cons_cons _ (.cons_cons _ (.cons _ .slnil))))⟩
        go_wp2_with fail
        go_ret2
        rw [← some_eq H]
        exact ⟨(by first | rfl | (simp [IntKind.wrap_u32]; done)), HS.out⟩
  · have H := if_no c3555 H
    have c3555b0 : t3542.2.2.2 = false := by simpa using c3555
    have c3555b1 : (!t3542.2.2.2) = true := by rw [c3555b0]; rfl
    try rw [c3555b1]
    clear c3555
    go_wp2_with (first | ((with_reducible refine gate_dst (N := 6) rfl ?_); refine box_on ?hg (N := 6) ?hd (cs := #[.int .i64 0, .int .i64 0, .int .i64 0]) (t := 166) ?hr ?_; (case hd => rfl); (case hg => rfl); (case hr => first | (go_simp; done) | (go_simp; rfl)); intro g3545 hg w3546 hbox hb; replace HS : Aside0 (Sep FF w [b7 g3431 g3433 a3441 a3442 a3443 a3444, b6 g3433 A3436 l3435.length n3438 a3440, r5 A3436 l3435.length n3438 l3435, b8 g3545 0 0 0] w3546) := ⟨HS.out.box hg hbox hb⟩; clear hg hbox hb; have hc3548 : w3546.cell? ⟨g3545, 0, none⟩ = some (.int .i64 0) := blk_cellv (HS.out.at3) 0 rfl; have hz3549 : w3546.frozen? ⟨g3545, 0, none⟩ = false := blk_fz (HS.out.at3) 0; have hc3550 : w3546.cell? ⟨g3545, 1, none⟩ = some (.int .i64 0) := blk_cellv (HS.out.at3) 1 rfl; have hz3551 : w3546.frozen? ⟨g3545, 1, none⟩ = false := blk_fz (HS.out.at3) 1; have hc3552 : w3546.cell? ⟨g3545, 2, none⟩ = some (.int .i64 0) := blk_cellv (HS.out.at3) 2 rfl; have hz3553 : w3546.frozen? ⟨g3545, 2, none⟩ = false := blk_fz (HS.out.at3) 2) | ((with_reducible refine gate_store (t := 166) (p := 6) rfl ?_); refine store_event (w1 := (World.setCell (World.setCell (World.setCell w3546 ⟨g3545, 0, none⟩ (.int .i64 t3542.1)) ⟨g3545, 1, none⟩ (.int .i64 t3542.2.1)) ⟨g3545, 2, none⟩ (.int .i64 t3542.2.2.1))) rfl (t := 166) (p := 6) rfl rfl ?hr ?_; (case hr => first | (go_simp; done) | (go_simp; rfl)); intro w3554 hst; clear hc3548 hz3549 hc3550 hz3551 hc3552 hz3553; replace HS : Aside0 (Sep FF w [b7 g3431 g3433 a3441 a3442 a3443 a3444, b6 g3433 A3436 l3435.length n3438 a3440, r5 A3436 l3435.length n3438 l3435, b8 g3545 t3542.1 t3542.2.1 t3542.2.2.1] w3554) := ⟨by rw [hst]; exact HS.out.setAll (l1 := [b7 g3431 g3433 a3441 a3442 a3443 a3444, b6 g3433 A3436 l3435.length n3438 a3440, r5 A3436 l3435.length n3438 l3435]) (l2 := []) [.int .i64 t3542.1, .int .i64 t3542.2.1, .int .i64 t3542.2.2.1] rfl⟩; clear hst; replace HS : Aside0 (Sep FF w [b7 g3431 g3433 a3441 a3442 a3443 a3444, b6 g3433 A3436 l3435.length n3438 a3440, r5 A3436 l3435.length n3438 l3435] w3554) := ⟨HS.out.sub (.cons_cons _ (.cons_cons _ (.cons_cons _ (.cons _ .slnil))))⟩))
    go_ret2
    rw [← some_eq H]
    exact ⟨(by first | rfl | (simp [IntKind.wrap_u32]; done)), HS.out⟩

set_option maxHeartbeats 30000000 in
set_option maxRecDepth 100000 in
theorem ground_Ground_Wipe.calls (k : Nat) (l3599 : List Int) (a3604 : Int) (a3605 : Int) (a3606 : Int) (a3607 : Int) (a3608 : Int) (a3609 : Int) (g3595 : Nat) (g3597 : Nat) (A3600 : Option Addr) (m3601 : Nat) (n3602 : Nat) (r : Int × Int × List Int) (w : World)  (HGl0 : Aside0 (Gl 0 #[.int .i64 0, .int .i64 0, .int .i64 0, .int .i64 0, .int .i64 0] (fps [b7 g3595 g3597 a3605 a3606 a3607 a3608, b6 g3597 A3600 m3601 n3602 a3604, r5 A3600 m3601 n3602 l3599]) w)) (HS : Aside0 (Sep (fps [b7 g3595 g3597 a3605 a3606 a3607 a3608, b6 g3597 A3600 m3601 n3602 a3604, r5 A3600 m3601 n3602 l3599]) w [b7 g3595 g3597 a3605 a3606 a3607 a3608, b6 g3597 A3600 m3601 n3602 a3604, r5 A3600 m3601 n3602 l3599] w)) (H : Aside0 (ground_Ground_Wipe.f k l3599 a3604 a3605 a3606 a3607 a3608 a3609 = some r)) :
    Calls Tryd.prog 136 #[.pointer (some ⟨g3595, 0, none⟩), .int .i64 a3609] w fun e w' => e = .returned (.int .i64 r.1) ∧ Sep (fps [b7 g3595 g3597 a3605 a3606 a3607 a3608, b6 g3597 A3600 m3601 n3602 a3604, r5 A3600 m3601 n3602 l3599]) w [b7 g3595 g3597 a3605 a3606 a3607 a3608, b6 g3597 A3600 m3601 n3602 r.2.1, r5 A3600 m3601 n3602 r.2.2] w' := by
  generalize (fps [b7 g3595 g3597 a3605 a3606 a3607 a3608, b6 g3597 A3600 m3601 n3602 a3604, r5 A3600 m3601 n3602 l3599]) = FF at HS HGl0 ⊢
  obtain rfl := (row_len (HS.out.at2)).symm
  unfold ground_Ground_Wipe.f at H
  go_enter Tryd.func136, Tryd.ntmps136
  go_wp2_with fail
  obtain ⟨t3638, HA3639, H⟩ := bind_some H
  refine (ground_Ground_Conf.calls l3599 a3604 a3605 a3606 a3607 a3608 g3595 g3597 A3600 l3599.length n3602 t3638 _ ⟨HGl0.out.pass HS.out⟩ ⟨HS.out.begin⟩ HA3639).mono ?_
  rintro e_ w3640 ⟨rfl, hS⟩
  replace HS : Aside0 (Sep FF w [b7 g3595 g3597 a3605 a3606 a3607 a3608, b6 g3597 A3600 l3599.length n3602 a3604, r5 A3600 l3599.length n3602 l3599] w3640) := ⟨HS.out.call hS⟩
  clear hS
  have fl3641 : ∀ w, (Instr.field 30 (.agg #[.int .i64 t3638.1, .int .i64 t3638.2.1, .int .i64 t3638.2.2.1, .int .i64 t3638.2.2.2]) 1).run Tryd.prog w = .ok (.int .i64 t3638.2.1) w := fun _ => by kernel_rfl
  go_wp2_with fail
  clear fl3641
  obtain ⟨o3654, AL3655, H⟩ := bind_some H
  go_loopg [5, 10] k (fun kq v5 v10 wc => ∃ (x3658 : Int) (x3659 : Int) (x3660 : List Int) (x3661 : Int), v5 = .int .i64 x3658 ∧ v10 = .int .i64 x3659 ∧ Aside0 (ground_Ground_Wipe.lo0 kq a3605 a3606 a3607 a3608 a3609 t3638 x3658 x3659 x3660 x3661 = some o3654) ∧ Aside0 (Sep FF w [b7 g3595 g3597 a3605 a3606 a3607 a3608, b6 g3597 A3600 l3599.length n3602 x3661, r5 A3600 l3599.length n3602 x3660] wc))
  case atStart => exact ⟨(0), (0), (l3599), (a3604), (by first | rfl | (simp [IntKind.wrap_u32]; done)), (by first | rfl | (simp [IntKind.wrap_u32]; done)), AL3655, ⟨HS.out⟩⟩
  case round =>
    clear AL3655 HS
    obtain ⟨x3658, x3659, x3660, x3661, rfl, rfl, AL3655, HS⟩ := hrel
    obtain ⟨w3656, rfl⟩ : ∃ x : World, x = wr := ⟨_, rfl⟩
    cases gk with
    | zero => exact absurd AL3655.out (by simp [ground_Ground_Wipe.lo0])
    | succ k3657 =>
      have AL0 := AL3655.out
      rw [ground_Ground_Wipe.lo0] at AL0
      clear AL3655
      have AL3655 := Aside0.mk AL0
      clear AL0
      by_cases c3662 : x3659 < t3638.2.1
      · have AL3655 := if_yes c3662 AL3655
        have c3662b0 : decide (x3659 < t3638.2.1) = true := decide_eq_true c3662
        clear c3662
        go_wp2_with fail
        obtain ⟨t3650, HA3663, AL3655⟩ := bind_some AL3655
        refine (ground_Ground_SetWord.calls x3660 x3661 a3605 a3606 a3607 a3608 a3609 x3659 0 g3595 g3597 A3600 l3599.length n3602 t3650 _ ⟨HGl0.out.pass HS.out⟩ ⟨HS.out.begin⟩ HA3663).mono ?_
        rintro e_ w3664 ⟨rfl, hS⟩
        replace HS : Aside0 (Sep FF w [b7 g3595 g3597 a3605 a3606 a3607 a3608, b6 g3597 A3600 l3599.length n3602 t3650.2.1, r5 A3600 l3599.length n3602 t3650.2.2] w3664) := ⟨HS.out.call hS⟩
        clear hS
        by_cases c3665 : t3650.1 = true
        · have AL3655 := if_yes c3665 AL3655
          have c3665b0 : t3650.1 = true := c3665
          have c3665b1 : (!t3650.1) = false := by rw [c3665b0]; rfl
          clear c3665
          go_wp2_with fail
          go_roundg k3657
          case measure => exact Nat.lt_succ_self _
          case rel => exact ⟨(wrap64 (x3658 + 1)), (wrap64 (x3659 + 1)), (t3650.2.2), (t3650.2.1), (by first | rfl | (simp [IntKind.wrap_u32]; done)), (by first | rfl | (simp [IntKind.wrap_u32]; done)), Aside0.mk AL3655.out, ⟨HS.out⟩⟩
        · have AL3655 := if_no c3665 AL3655
          have c3665b0 : t3650.1 = false := by simpa using c3665
          have c3665b1 : (!t3650.1) = true := by rw [c3665b0]; rfl
          clear c3665
          go_wp2_with fail
          go_roundg k3657
          case measure => exact Nat.lt_succ_self _
          case rel => exact ⟨(x3658), (wrap64 (x3659 + 1)), (t3650.2.2), (t3650.2.1), (by first | rfl | (simp [IntKind.wrap_u32]; done)), (by first | rfl | (simp [IntKind.wrap_u32]; done)), Aside0.mk AL3655.out, ⟨HS.out⟩⟩
      · have AL3655 := if_no c3662 AL3655
        have c3662b0 : decide (x3659 < t3638.2.1) = false := decide_eq_false c3662
        clear c3662
        have ho := some_eq AL3655
        subst ho
        clear AL3655
        go_wp2_with fail
        go_ret
        rw [← some_eq H]
        exact ⟨(by first | rfl | (simp [IntKind.wrap_u32]; done)), HS.out⟩

set_option maxHeartbeats 30000000 in
set_option maxRecDepth 100000 in
theorem pool_Take.calls (k : Nat) (l3420 : List Int) (a3425 : Int) (a3426 : Int) (a3427 : Int) (a3428 : Int) (a3429 : Int) (g3416 : Nat) (g3418 : Nat) (A3421 : Option Addr) (m3422 : Nat) (n3423 : Nat) (r : Int × Bool × Int × List Int) (w : World)  (HGl0 : Aside0 (Gl 0 #[.int .i64 0, .int .i64 0, .int .i64 0, .int .i64 0, .int .i64 0] (fps [b7 g3416 g3418 a3426 a3427 a3428 a3429, b6 g3418 A3421 m3422 n3423 a3425, r5 A3421 m3422 n3423 l3420]) w)) (HS : Aside0 (Sep (fps [b7 g3416 g3418 a3426 a3427 a3428 a3429, b6 g3418 A3421 m3422 n3423 a3425, r5 A3421 m3422 n3423 l3420]) w [b7 g3416 g3418 a3426 a3427 a3428 a3429, b6 g3418 A3421 m3422 n3423 a3425, r5 A3421 m3422 n3423 l3420] w)) (H : Aside0 (pool_Take.f k l3420 a3425 a3426 a3427 a3428 a3429 = some r)) :
    Calls Tryd.prog 98 #[.pointer (some ⟨g3416, 0, none⟩)] w fun e w' => e = .returned (.tuple #[.int .i64 r.1, .bool r.2.1]) ∧ Sep (fps [b7 g3416 g3418 a3426 a3427 a3428 a3429, b6 g3418 A3421 m3422 n3423 a3425, r5 A3421 m3422 n3423 l3420]) w [b7 g3416 g3418 a3426 a3427 a3428 a3429, b6 g3418 A3421 m3422 n3423 r.2.2.1, r5 A3421 m3422 n3423 r.2.2.2] w' := by
  generalize (fps [b7 g3416 g3418 a3426 a3427 a3428 a3429, b6 g3418 A3421 m3422 n3423 a3425, r5 A3421 m3422 n3423 l3420]) = FF at HS HGl0 ⊢
  obtain rfl := (row_len (HS.out.at2)).symm
  unfold pool_Take.f at H
  go_enter Tryd.func98, Tryd.ntmps98
  go_wp2_with fail
  obtain ⟨t3670, HA3671, H⟩ := bind_some H
  refine (chain_Take.calls l3420 a3425 a3426 a3427 a3428 a3429 0 g3416 g3418 A3421 l3420.length n3423 t3670 _ ⟨HGl0.out.pass HS.out⟩ ⟨HS.out.begin⟩ HA3671).mono ?_
  rintro e_ w3672 ⟨rfl, hS⟩
  replace HS : Aside0 (Sep FF w [b7 g3416 g3418 a3426 a3427 a3428 a3429, b6 g3418 A3421 l3420.length n3423 t3670.2.2.1, r5 A3421 l3420.length n3423 t3670.2.2.2] w3672) := ⟨HS.out.call hS⟩
  clear hS
  by_cases c3673 : t3670.2.1 = true
  · have H := if_yes c3673 H
    have c3673b0 : t3670.2.1 = true := c3673
    have c3673b1 : (!t3670.2.1) = false := by rw [c3673b0]; rfl
    try rw [c3673b1]
    clear c3673
    go_wp2_with fail
    obtain ⟨t3674, HA3675, H⟩ := bind_some H
    refine (ground_Ground_Wipe.calls _ t3670.2.2.2 t3670.2.2.1 a3426 a3427 a3428 a3429 t3670.1 g3416 g3418 A3421 l3420.length n3423 t3674 _ ⟨HGl0.out.pass HS.out⟩ ⟨HS.out.begin⟩ HA3675).mono ?_
    rintro e_ w3676 ⟨rfl, hS⟩
    replace HS : Aside0 (Sep FF w [b7 g3416 g3418 a3426 a3427 a3428 a3429, b6 g3418 A3421 l3420.length n3423 t3674.2.1, r5 A3421 l3420.length n3423 t3674.2.2] w3676) := ⟨HS.out.call hS⟩
    clear hS
    go_wp2_with fail
    go_ret2
    rw [← some_eq H]
    exact ⟨(by first | rfl | (simp [IntKind.wrap_u32]; done)), HS.out⟩
  · have H := if_no c3673 H
    have c3673b0 : t3670.2.1 = false := by simpa using c3673
    have c3673b1 : (!t3670.2.1) = true := by rw [c3673b0]; rfl
    try rw [c3673b1]
    clear c3673
    go_wp2_with fail
    go_ret2
    rw [← some_eq H]
    exact ⟨(by first | rfl | (simp [IntKind.wrap_u32]; done)), HS.out⟩

set_option maxHeartbeats 30000000 in
set_option maxRecDepth 100000 in
theorem obj_mark.calls (k : Nat) (l3686 : List Int) (a3691 : Int) (a3692 : Int) (a3693 : Int) (a3694 : Int) (a3695 : Int) (a3696 : Int) (a3697 : Int) (a3698 : Int) (a3699 : Int) (a3700 : Int) (a3701 : Int) (a3702 : Int) (a3703 : Int) (g3682 : Nat) (g3684 : Nat) (A3687 : Option Addr) (m3688 : Nat) (n3689 : Nat) (r : Int × List Int) (w : World)  (HGl0 : Aside0 (Gl 0 #[.int .i64 0, .int .i64 0, .int .i64 0, .int .i64 0, .int .i64 0] (fps [b7 g3682 g3684 a3692 a3693 a3694 a3695, b6 g3684 A3687 m3688 n3689 a3691, r5 A3687 m3688 n3689 l3686]) w)) (HS : Aside0 (Sep (fps [b7 g3682 g3684 a3692 a3693 a3694 a3695, b6 g3684 A3687 m3688 n3689 a3691, r5 A3687 m3688 n3689 l3686]) w [b7 g3682 g3684 a3692 a3693 a3694 a3695, b6 g3684 A3687 m3688 n3689 a3691, r5 A3687 m3688 n3689 l3686] w)) (H : Aside0 (obj_mark.f k l3686 a3691 a3692 a3693 a3694 a3695 a3696 a3697 a3698 a3699 a3700 a3701 a3702 a3703 = some r)) :
    Calls Tryd.prog 99 #[.pointer (some ⟨g3682, 0, none⟩), .int .i64 a3696, .agg #[.int .i64 a3697, .int .i64 a3698, .int .i64 a3699, .int .i64 a3700, .int .i64 a3701, .int .i64 a3702, .int .i64 a3703]] w fun e w' => e = .returned (.tuple #[]) ∧ Sep (fps [b7 g3682 g3684 a3692 a3693 a3694 a3695, b6 g3684 A3687 m3688 n3689 a3691, r5 A3687 m3688 n3689 l3686]) w [b7 g3682 g3684 a3692 a3693 a3694 a3695, b6 g3684 A3687 m3688 n3689 r.1, r5 A3687 m3688 n3689 r.2] w' := by
  generalize (fps [b7 g3682 g3684 a3692 a3693 a3694 a3695, b6 g3684 A3687 m3688 n3689 a3691, r5 A3687 m3688 n3689 l3686]) = FF at HS HGl0 ⊢
  obtain rfl := (row_len (HS.out.at2)).symm
  unfold obj_mark.f at H
  go_enter Tryd.func99, Tryd.ntmps99
  go_wp2_with (first | ((with_reducible refine gate_dst (N := 5) rfl ?_); refine box_on ?hg (N := 5) ?hd (cs := #[.int .i64 a3697, .int .i64 a3698, .int .i64 a3699, .int .i64 a3700, .int .i64 a3701, .int .i64 a3702, .int .i64 a3703]) (t := 32) ?hr ?_; (case hd => rfl); (case hg => rfl); (case hr => first | (go_simp; done) | (go_simp; rfl)); intro g3721 hg w3722 hbox hb; replace HS : Aside0 (Sep FF w [b7 g3682 g3684 a3692 a3693 a3694 a3695, b6 g3684 A3687 l3686.length n3689 a3691, r5 A3687 l3686.length n3689 l3686, b17 g3721 a3697 a3698 a3699 a3700 a3701 a3702 a3703] w3722) := ⟨HS.out.box hg hbox hb⟩; clear hg hbox hb; have hc3724 : w3722.cell? ⟨g3721, 0, none⟩ = some (.int .i64 a3697) := blk_cellv (HS.out.at3) 0 rfl; have hc3725 : w3722.cell? ⟨g3721, 1, none⟩ = some (.int .i64 a3698) := blk_cellv (HS.out.at3) 1 rfl; have hc3726 : w3722.cell? ⟨g3721, 2, none⟩ = some (.int .i64 a3699) := blk_cellv (HS.out.at3) 2 rfl; have hc3727 : w3722.cell? ⟨g3721, 3, none⟩ = some (.int .i64 a3700) := blk_cellv (HS.out.at3) 3 rfl; have hc3728 : w3722.cell? ⟨g3721, 4, none⟩ = some (.int .i64 a3701) := blk_cellv (HS.out.at3) 4 rfl; have hc3729 : w3722.cell? ⟨g3721, 5, none⟩ = some (.int .i64 a3702) := blk_cellv (HS.out.at3) 5 rfl; have hc3730 : w3722.cell? ⟨g3721, 6, none⟩ = some (.int .i64 a3703) := blk_cellv (HS.out.at3) 6 rfl))
  clear hc3724 hc3725 hc3726 hc3727 hc3728 hc3729 hc3730
  obtain ⟨t3731, HA3732, H⟩ := bind_some H
  refine (tag_Pack.calls _ a3697 a3698 a3699 a3700 a3701 a3702 a3703 t3731 _ ⟨HGl0.out.pass (l := []) HS.out⟩ ⟨Sep.start _⟩ HA3732).mono ?_
  rintro e_ w3733 ⟨rfl, hS⟩
  replace HS : Aside0 (Sep FF w [b7 g3682 g3684 a3692 a3693 a3694 a3695, b6 g3684 A3687 l3686.length n3689 a3691, r5 A3687 l3686.length n3689 l3686, b17 g3721 a3697 a3698 a3699 a3700 a3701 a3702 a3703] w3733) := ⟨HS.out.call hS⟩
  clear hS
  by_cases c3734 : t3731.2 = 0
  · have H := if_yes c3734 H
    have c3734b0 : (t3731.2 == 0) = true := beq_iff_eq.mpr c3734
    have c3734b1 : (t3731.2 != 0) = false := bne_eq_false_iff_eq.mpr c3734
    clear c3734
    replace HS : Aside0 (Sep FF w [b7 g3682 g3684 a3692 a3693 a3694 a3695, b6 g3684 A3687 l3686.length n3689 a3691, r5 A3687 l3686.length n3689 l3686] w3733) := ⟨HS.out.sub (.cons_cons _ (.cons_cons _ (.cons_cons _ (.cons _ .slnil))))⟩
    go_wp2_with fail
    obtain ⟨t3735, HA3736, H⟩ := bind_some H
    refine (ground_Ground_SetWord.calls l3686 a3691 a3692 a3693 a3694 a3695 a3696 0 t3731.1 g3682 g3684 A3687 l3686.length n3689 t3735 _ ⟨HGl0.out.pass HS.out⟩ ⟨HS.out.begin⟩ HA3736).mono ?_
    rintro e_ w3737 ⟨rfl, hS⟩
    replace HS : Aside0 (Sep FF w [b7 g3682 g3684 a3692 a3693 a3694 a3695, b6 g3684 A3687 l3686.length n3689 t3735.2.1, r5 A3687 l3686.length n3689 t3735.2.2] w3737) := ⟨HS.out.call hS⟩
    clear hS
    go_wp2_with fail
    first | go_end0 | refine bodyPost_ret (results_none rfl _ _ _) rfl ?_
    rw [← some_eq H]
    exact ⟨rfl, HS.out⟩
  · have H := if_no c3734 H
    have c3734b0 : (t3731.2 == 0) = false := beq_eq_false_iff_ne.mpr c3734
    have c3734b1 : (t3731.2 != 0) = true := bne_iff_ne.mpr c3734
    clear c3734
    replace HS : Aside0 (Sep FF w [b7 g3682 g3684 a3692 a3693 a3694 a3695, b6 g3684 A3687 l3686.length n3689 a3691, r5 A3687 l3686.length n3689 l3686] w3733) := ⟨HS.out.sub (.cons_cons _ (.cons_cons _ (.cons_cons _ (.cons _ .slnil))))⟩
    go_wp2_with fail
    first | go_end0 | refine bodyPost_ret (results_none rfl _ _ _) rfl ?_
    rw [← some_eq H]
    exact ⟨rfl, HS.out⟩

set_option maxHeartbeats 30000000 in
set_option maxRecDepth 100000 in
theorem obj_Make.calls (k : Nat) (l3358 : List Int) (a3363 : Int) (a3364 : Int) (a3365 : Int) (a3366 : Int) (a3367 : Int) (a3368 : Int) (a3369 : Int) (g3354 : Nat) (g3356 : Nat) (A3359 : Option Addr) (m3360 : Nat) (n3361 : Nat) (r : Int × Int × Int × List Int) (w : World)  (HGl0 : Aside0 (Gl 0 #[.int .i64 0, .int .i64 0, .int .i64 0, .int .i64 0, .int .i64 0] (fps [b7 g3354 g3356 a3364 a3365 a3366 a3367, b6 g3356 A3359 m3360 n3361 a3363, r5 A3359 m3360 n3361 l3358]) w)) (HS : Aside0 (Sep (fps [b7 g3354 g3356 a3364 a3365 a3366 a3367, b6 g3356 A3359 m3360 n3361 a3363, r5 A3359 m3360 n3361 l3358]) w [b7 g3354 g3356 a3364 a3365 a3366 a3367, b6 g3356 A3359 m3360 n3361 a3363, r5 A3359 m3360 n3361 l3358] w)) (H : Aside0 (obj_Make.f k l3358 a3363 a3364 a3365 a3366 a3367 a3368 a3369 = some r)) :
    Calls Tryd.prog 34 #[.pointer (some ⟨g3354, 0, none⟩), .int .i64 a3368, .int .i64 a3369] w fun e w' => e = .returned (.tuple #[.int .i64 r.1, .int .i64 r.2.1]) ∧ Sep (fps [b7 g3354 g3356 a3364 a3365 a3366 a3367, b6 g3356 A3359 m3360 n3361 a3363, r5 A3359 m3360 n3361 l3358]) w [b7 g3354 g3356 a3364 a3365 a3366 a3367, b6 g3356 A3359 m3360 n3361 r.2.2.1, r5 A3359 m3360 n3361 r.2.2.2] w' := by
  generalize (fps [b7 g3354 g3356 a3364 a3365 a3366 a3367, b6 g3356 A3359 m3360 n3361 a3363, r5 A3359 m3360 n3361 l3358]) = FF at HS HGl0 ⊢
  obtain rfl := (row_len (HS.out.at2)).symm
  unfold obj_Make.f at H
  go_enter Tryd.func34, Tryd.ntmps34
  go_wp2_with fail
  obtain ⟨t3777, HA3778, H⟩ := bind_some H
  refine (ground_Ground_Conf.calls l3358 a3363 a3364 a3365 a3366 a3367 g3354 g3356 A3359 l3358.length n3361 t3777 _ ⟨HGl0.out.pass HS.out⟩ ⟨HS.out.begin⟩ HA3778).mono ?_
  rintro e_ w3779 ⟨rfl, hS⟩
  replace HS : Aside0 (Sep FF w [b7 g3354 g3356 a3364 a3365 a3366 a3367, b6 g3356 A3359 l3358.length n3361 a3363, r5 A3359 l3358.length n3361 l3358] w3779) := ⟨HS.out.call hS⟩
  clear hS
  have fl3780 : ∀ w, (Instr.field 30 (.agg #[.int .i64 t3777.1, .int .i64 t3777.2.1, .int .i64 t3777.2.2.1, .int .i64 t3777.2.2.2]) 1).run Tryd.prog w = .ok (.int .i64 t3777.2.1) w := fun _ => by kernel_rfl
  go_wp2_with fail
  clear fl3780
  obtain ⟨t3781, HA3782, H⟩ := bind_some H
  refine (shape_Blocks.calls _ t3777.2.1 a3368 a3369 t3781 _ ⟨HGl0.out.pass (l := []) HS.out⟩ ⟨Sep.start _⟩ HA3782).mono ?_
  rintro e_ w3783 ⟨rfl, hS⟩
  replace HS : Aside0 (Sep FF w [b7 g3354 g3356 a3364 a3365 a3366 a3367, b6 g3356 A3359 l3358.length n3361 a3363, r5 A3359 l3358.length n3361 l3358] w3783) := ⟨HS.out.call hS⟩
  clear hS
  by_cases c3784 : t3781.2 = 0
  · have H := if_yes c3784 H
    have c3784b0 : (t3781.2 == 0) = true := beq_iff_eq.mpr c3784
    have c3784b1 : (t3781.2 != 0) = false := bne_eq_false_iff_eq.mpr c3784
    clear c3784
    go_wp2_with fail
    obtain ⟨t3785, HA3786, H⟩ := bind_some H
    refine (pool_Len.calls l3358 a3363 a3364 a3365 a3366 a3367 g3354 g3356 A3359 l3358.length n3361 t3785 _ ⟨HGl0.out.pass HS.out⟩ ⟨HS.out.begin⟩ HA3786).mono ?_
    rintro e_ w3787 ⟨rfl, hS⟩
    replace HS : Aside0 (Sep FF w [b7 g3354 g3356 a3364 a3365 a3366 a3367, b6 g3356 A3359 l3358.length n3361 t3785.2, r5 A3359 l3358.length n3361 l3358] w3787) := ⟨HS.out.call hS⟩
    clear hS
    by_cases c3788 : t3785.1 < t3781.1
    · have H := if_yes c3788 H
      have c3788b0 : decide (t3785.1 < t3781.1) = true := decide_eq_true c3788
      clear c3788
      go_wp2_with fail
      go_ret2
      rw [← some_eq H]
      exact ⟨(by first | rfl | (simp [IntKind.wrap_u32]; done)), HS.out⟩
    · have H := if_no c3788 H
      have c3788b0 : decide (t3785.1 < t3781.1) = false := decide_eq_false c3788
      clear c3788
      go_wp2_with fail
      obtain ⟨t3789, HA3790, H⟩ := bind_some H
      refine (pool_Take.calls _ l3358 t3785.2 a3364 a3365 a3366 a3367 g3354 g3356 A3359 l3358.length n3361 t3789 _ ⟨HGl0.out.pass HS.out⟩ ⟨HS.out.begin⟩ HA3790).mono ?_
      rintro e_ w3791 ⟨rfl, hS⟩
      replace HS : Aside0 (Sep FF w [b7 g3354 g3356 a3364 a3365 a3366 a3367, b6 g3356 A3359 l3358.length n3361 t3789.2.2.1, r5 A3359 l3358.length n3361 t3789.2.2.2] w3791) := ⟨HS.out.call hS⟩
      clear hS
      by_cases c3792 : t3781.1 > 1
      · have H := if_yes c3792 H
        have c3792b0 : decide (1 < t3781.1) = true := decide_eq_true c3792
        clear c3792
        go_wp2_with fail
        obtain ⟨t3793, HA3794, H⟩ := bind_some H
        refine (obj_mark.calls _ t3789.2.2.2 t3789.2.2.1 a3364 a3365 a3366 a3367 t3789.1 2 0 0 0 0 0 0 g3354 g3356 A3359 l3358.length n3361 t3793 _ ⟨HGl0.out.pass HS.out⟩ ⟨HS.out.begin⟩ HA3794).mono ?_
        rintro e_ w3795 ⟨rfl, hS⟩
        replace HS : Aside0 (Sep FF w [b7 g3354 g3356 a3364 a3365 a3366 a3367, b6 g3356 A3359 l3358.length n3361 t3793.1, r5 A3359 l3358.length n3361 t3793.2] w3795) := ⟨HS.out.call hS⟩
        clear hS
        go_wp2_with fail
        obtain ⟨t3796, HA3797, H⟩ := bind_some H
        refine (ground_Ground_SetWord.calls t3793.2 t3793.1 a3364 a3365 a3366 a3367 t3789.1 1 ((a3368) % 4294967296) g3354 g3356 A3359 l3358.length n3361 t3796 _ ⟨HGl0.out.pass HS.out⟩ ⟨HS.out.begin⟩ HA3797).mono ?_
        rintro e_ w3798 ⟨rfl, hS⟩
        replace HS : Aside0 (Sep FF w [b7 g3354 g3356 a3364 a3365 a3366 a3367, b6 g3356 A3359 l3358.length n3361 t3796.2.1, r5 A3359 l3358.length n3361 t3796.2.2] w3798) := ⟨HS.out.call hS⟩
        clear hS
        go_wp2_with fail
        obtain ⟨t3799, HA3800, H⟩ := bind_some H
        refine (ground_Ground_SetWord.calls t3796.2.2 t3796.2.1 a3364 a3365 a3366 a3367 t3789.1 2 ((a3369) % 4294967296) g3354 g3356 A3359 l3358.length n3361 t3799 _ ⟨HGl0.out.pass HS.out⟩ ⟨HS.out.begin⟩ HA3800).mono ?_
        rintro e_ w3801 ⟨rfl, hS⟩
        replace HS : Aside0 (Sep FF w [b7 g3354 g3356 a3364 a3365 a3366 a3367, b6 g3356 A3359 l3358.length n3361 t3799.2.1, r5 A3359 l3358.length n3361 t3799.2.2] w3801) := ⟨HS.out.call hS⟩
        clear hS
        go_wp2_with fail
        obtain ⟨o3818, AL3819, H⟩ := bind_some H
        go_loopg [56] k (fun kq v56 wc => ∃ (x3822 : Int) (x3823 : List Int) (x3824 : Int), v56 = .int .i64 x3822 ∧ Aside0 (obj_Make.lo0 kq a3364 a3365 a3366 a3367 t3781 t3789 x3822 x3823 x3824 = some o3818) ∧ Aside0 (Sep FF w [b7 g3354 g3356 a3364 a3365 a3366 a3367, b6 g3356 A3359 l3358.length n3361 x3824, r5 A3359 l3358.length n3361 x3823] wc))
        case atStart => exact ⟨(0), (t3799.2.2), (t3799.2.1), (by first | rfl | (simp [IntKind.wrap_u32]; done)), AL3819, ⟨HS.out⟩⟩
        case round =>
          clear AL3819 HS
          obtain ⟨x3822, x3823, x3824, rfl, AL3819, HS⟩ := hrel
          obtain ⟨w3820, rfl⟩ : ∃ x : World, x = wr := ⟨_, rfl⟩
          cases gk with
          | zero => exact absurd AL3819.out (by simp [obj_Make.lo0])
          | succ k3821 =>
            have AL0 := AL3819.out
            rw [obj_Make.lo0] at AL0
            clear AL3819
            have AL3819 := Aside0.mk AL0
            clear AL0
            by_cases c3825 : x3822 < (wrap64 (t3781.1 - 1))
            · have AL3819 := if_yes c3825 AL3819
              have c3825b0 : decide (x3822 < (wrap64 (t3781.1 - 1))) = true := decide_eq_true c3825
              clear c3825
              go_wp2_with fail
              obtain ⟨t3809, HA3826, AL3819⟩ := bind_some AL3819
              refine (pool_Take.calls _ x3823 x3824 a3364 a3365 a3366 a3367 g3354 g3356 A3359 l3358.length n3361 t3809 _ ⟨HGl0.out.pass HS.out⟩ ⟨HS.out.begin⟩ HA3826).mono ?_
              rintro e_ w3827 ⟨rfl, hS⟩
              replace HS : Aside0 (Sep FF w [b7 g3354 g3356 a3364 a3365 a3366 a3367, b6 g3356 A3359 l3358.length n3361 t3809.2.2.1, r5 A3359 l3358.length n3361 t3809.2.2.2] w3827) := ⟨HS.out.call hS⟩
              clear hS
              go_wp2_with fail
              obtain ⟨t3812, HA3828, AL3819⟩ := bind_some AL3819
              refine (obj_mark.calls _ t3809.2.2.2 t3809.2.2.1 a3364 a3365 a3366 a3367 t3809.1 3 0 0 0 0 0 t3789.1 g3354 g3356 A3359 l3358.length n3361 t3812 _ ⟨HGl0.out.pass HS.out⟩ ⟨HS.out.begin⟩ HA3828).mono ?_
              rintro e_ w3829 ⟨rfl, hS⟩
              replace HS : Aside0 (Sep FF w [b7 g3354 g3356 a3364 a3365 a3366 a3367, b6 g3356 A3359 l3358.length n3361 t3812.1, r5 A3359 l3358.length n3361 t3812.2] w3829) := ⟨HS.out.call hS⟩
              clear hS
              go_wp2_with fail
              obtain ⟨t3815, HA3830, AL3819⟩ := bind_some AL3819
              refine (ground_Ground_SetWord.calls t3812.2 t3812.1 a3364 a3365 a3366 a3367 t3789.1 (wrap64 (8 + x3822)) ((wrap64 (t3809.1 + 1)) % 4294967296) g3354 g3356 A3359 l3358.length n3361 t3815 _ ⟨HGl0.out.pass HS.out⟩ ⟨HS.out.begin⟩ HA3830).mono ?_
              rintro e_ w3831 ⟨rfl, hS⟩
              replace HS : Aside0 (Sep FF w [b7 g3354 g3356 a3364 a3365 a3366 a3367, b6 g3356 A3359 l3358.length n3361 t3815.2.1, r5 A3359 l3358.length n3361 t3815.2.2] w3831) := ⟨HS.out.call hS⟩
              clear hS
              go_wp2_with fail
              go_roundg k3821
              case measure => exact Nat.lt_succ_self _
              case rel => exact ⟨(wrap64 (x3822 + 1)), (t3815.2.2), (t3815.2.1), (by first | rfl | (simp [IntKind.wrap_u32]; done)), Aside0.mk AL3819.out, ⟨HS.out⟩⟩
            · have AL3819 := if_no c3825 AL3819
              have c3825b0 : decide (x3822 < (wrap64 (t3781.1 - 1))) = false := decide_eq_false c3825
              clear c3825
              have ho := some_eq AL3819
              subst ho
              clear AL3819
              go_wp2_with fail
              go_ret2
              rw [← some_eq H]
              exact ⟨(by first | rfl | (simp [IntKind.wrap_u32]; done)), HS.out⟩
      · have H := if_no c3792 H
        have c3792b0 : decide (1 < t3781.1) = false := decide_eq_false c3792
        clear c3792
        go_wp2_with fail
        obtain ⟨t3793, HA3833, H⟩ := bind_some H
        refine (obj_mark.calls _ t3789.2.2.2 t3789.2.2.1 a3364 a3365 a3366 a3367 t3789.1 1 0 0 0 0 0 0 g3354 g3356 A3359 l3358.length n3361 t3793 _ ⟨HGl0.out.pass HS.out⟩ ⟨HS.out.begin⟩ HA3833).mono ?_
        rintro e_ w3834 ⟨rfl, hS⟩
        replace HS : Aside0 (Sep FF w [b7 g3354 g3356 a3364 a3365 a3366 a3367, b6 g3356 A3359 l3358.length n3361 t3793.1, r5 A3359 l3358.length n3361 t3793.2] w3834) := ⟨HS.out.call hS⟩
        clear hS
        go_wp2_with fail
        obtain ⟨t3796, HA3835, H⟩ := bind_some H
        refine (ground_Ground_SetWord.calls t3793.2 t3793.1 a3364 a3365 a3366 a3367 t3789.1 1 ((a3368) % 4294967296) g3354 g3356 A3359 l3358.length n3361 t3796 _ ⟨HGl0.out.pass HS.out⟩ ⟨HS.out.begin⟩ HA3835).mono ?_
        rintro e_ w3836 ⟨rfl, hS⟩
        replace HS : Aside0 (Sep FF w [b7 g3354 g3356 a3364 a3365 a3366 a3367, b6 g3356 A3359 l3358.length n3361 t3796.2.1, r5 A3359 l3358.length n3361 t3796.2.2] w3836) := ⟨HS.out.call hS⟩
        clear hS
        go_wp2_with fail
        obtain ⟨t3799, HA3837, H⟩ := bind_some H
        refine (ground_Ground_SetWord.calls t3796.2.2 t3796.2.1 a3364 a3365 a3366 a3367 t3789.1 2 ((a3369) % 4294967296) g3354 g3356 A3359 l3358.length n3361 t3799 _ ⟨HGl0.out.pass HS.out⟩ ⟨HS.out.begin⟩ HA3837).mono ?_
        rintro e_ w3838 ⟨rfl, hS⟩
        replace HS : Aside0 (Sep FF w [b7 g3354 g3356 a3364 a3365 a3366 a3367, b6 g3356 A3359 l3358.length n3361 t3799.2.1, r5 A3359 l3358.length n3361 t3799.2.2] w3838) := ⟨HS.out.call hS⟩
        clear hS
        go_wp2_with fail
        obtain ⟨o3852, AL3853, H⟩ := bind_some H
        go_loopg [56] k (fun kq v56 wc => ∃ (x3856 : Int) (x3857 : List Int) (x3858 : Int), v56 = .int .i64 x3856 ∧ Aside0 (obj_Make.lo1 kq a3364 a3365 a3366 a3367 t3781 t3789 x3856 x3857 x3858 = some o3852) ∧ Aside0 (Sep FF w [b7 g3354 g3356 a3364 a3365 a3366 a3367, b6 g3356 A3359 l3358.length n3361 x3858, r5 A3359 l3358.length n3361 x3857] wc))
        case atStart => exact ⟨(0), (t3799.2.2), (t3799.2.1), (by first | rfl | (simp [IntKind.wrap_u32]; done)), AL3853, ⟨HS.out⟩⟩
        case round =>
          clear AL3853 HS
          obtain ⟨x3856, x3857, x3858, rfl, AL3853, HS⟩ := hrel
          obtain ⟨w3854, rfl⟩ : ∃ x : World, x = wr := ⟨_, rfl⟩
          cases gk with
          | zero => exact absurd AL3853.out (by simp [obj_Make.lo1])
          | succ k3855 =>
            have AL0 := AL3853.out
            rw [obj_Make.lo1] at AL0
            clear AL3853
            have AL3853 := Aside0.mk AL0
            clear AL0
            by_cases c3859 : x3856 < (wrap64 (t3781.1 - 1))
            · have AL3853 := if_yes c3859 AL3853
              have c3859b0 : decide (x3856 < (wrap64 (t3781.1 - 1))) = true := decide_eq_true c3859
              clear c3859
              go_wp2_with fail
              obtain ⟨t3809, HA3860, AL3853⟩ := bind_some AL3853
              refine (pool_Take.calls _ x3857 x3858 a3364 a3365 a3366 a3367 g3354 g3356 A3359 l3358.length n3361 t3809 _ ⟨HGl0.out.pass HS.out⟩ ⟨HS.out.begin⟩ HA3860).mono ?_
              rintro e_ w3861 ⟨rfl, hS⟩
              replace HS : Aside0 (Sep FF w [b7 g3354 g3356 a3364 a3365 a3366 a3367, b6 g3356 A3359 l3358.length n3361 t3809.2.2.1, r5 A3359 l3358.length n3361 t3809.2.2.2] w3861) := ⟨HS.out.call hS⟩
              clear hS
              go_wp2_with fail
              obtain ⟨t3812, HA3862, AL3853⟩ := bind_some AL3853
              refine (obj_mark.calls _ t3809.2.2.2 t3809.2.2.1 a3364 a3365 a3366 a3367 t3809.1 3 0 0 0 0 0 t3789.1 g3354 g3356 A3359 l3358.length n3361 t3812 _ ⟨HGl0.out.pass HS.out⟩ ⟨HS.out.begin⟩ HA3862).mono ?_
              rintro e_ w3863 ⟨rfl, hS⟩
              replace HS : Aside0 (Sep FF w [b7 g3354 g3356 a3364 a3365 a3366 a3367, b6 g3356 A3359 l3358.length n3361 t3812.1, r5 A3359 l3358.length n3361 t3812.2] w3863) := ⟨HS.out.call hS⟩
              clear hS
              go_wp2_with fail
              obtain ⟨t3815, HA3864, AL3853⟩ := bind_some AL3853
              refine (ground_Ground_SetWord.calls t3812.2 t3812.1 a3364 a3365 a3366 a3367 t3789.1 (wrap64 (8 + x3856)) ((wrap64 (t3809.1 + 1)) % 4294967296) g3354 g3356 A3359 l3358.length n3361 t3815 _ ⟨HGl0.out.pass HS.out⟩ ⟨HS.out.begin⟩ HA3864).mono ?_
              rintro e_ w3865 ⟨rfl, hS⟩
              replace HS : Aside0 (Sep FF w [b7 g3354 g3356 a3364 a3365 a3366 a3367, b6 g3356 A3359 l3358.length n3361 t3815.2.1, r5 A3359 l3358.length n3361 t3815.2.2] w3865) := ⟨HS.out.call hS⟩
              clear hS
              go_wp2_with fail
              go_roundg k3855
              case measure => exact Nat.lt_succ_self _
              case rel => exact ⟨(wrap64 (x3856 + 1)), (t3815.2.2), (t3815.2.1), (by first | rfl | (simp [IntKind.wrap_u32]; done)), Aside0.mk AL3853.out, ⟨HS.out⟩⟩
            · have AL3853 := if_no c3859 AL3853
              have c3859b0 : decide (x3856 < (wrap64 (t3781.1 - 1))) = false := decide_eq_false c3859
              clear c3859
              have ho := some_eq AL3853
              subst ho
              clear AL3853
              go_wp2_with fail
              go_ret2
              rw [← some_eq H]
              exact ⟨(by first | rfl | (simp [IntKind.wrap_u32]; done)), HS.out⟩
  · have H := if_no c3784 H
    have c3784b0 : (t3781.2 == 0) = false := beq_eq_false_iff_ne.mpr c3784
    have c3784b1 : (t3781.2 != 0) = true := bne_iff_ne.mpr c3784
    clear c3784
    go_wp2_with fail
    go_ret2
    rw [← some_eq H]
    exact ⟨(by first | rfl | (simp [IntKind.wrap_u32]; done)), HS.out⟩

set_option maxHeartbeats 30000000 in
set_option maxRecDepth 100000 in
theorem obj_in.calls (l3924 : List Int) (a3929 : Int) (a3930 : Int) (a3931 : Int) (a3932 : Int) (a3933 : Int) (a3934 : Int) (g3920 : Nat) (g3922 : Nat) (A3925 : Option Addr) (m3926 : Nat) (n3927 : Nat) (r : Bool) (w : World)  (HGl0 : Aside0 (Gl 0 #[.int .i64 0, .int .i64 0, .int .i64 0, .int .i64 0, .int .i64 0] (fps [b7 g3920 g3922 a3930 a3931 a3932 a3933, b6 g3922 A3925 m3926 n3927 a3929, r5 A3925 m3926 n3927 l3924]) w)) (HS : Aside0 (Sep (fps [b7 g3920 g3922 a3930 a3931 a3932 a3933, b6 g3922 A3925 m3926 n3927 a3929, r5 A3925 m3926 n3927 l3924]) w [b7 g3920 g3922 a3930 a3931 a3932 a3933, b6 g3922 A3925 m3926 n3927 a3929, r5 A3925 m3926 n3927 l3924] w)) (H : Aside0 (obj_in.f l3924 a3929 a3930 a3931 a3932 a3933 a3934 = some r)) :
    Calls Tryd.prog 100 #[.pointer (some ⟨g3920, 0, none⟩), .int .i64 a3934] w fun e w' => e = .returned (.bool r) ∧ Sep (fps [b7 g3920 g3922 a3930 a3931 a3932 a3933, b6 g3922 A3925 m3926 n3927 a3929, r5 A3925 m3926 n3927 l3924]) w [b7 g3920 g3922 a3930 a3931 a3932 a3933, b6 g3922 A3925 m3926 n3927 a3929, r5 A3925 m3926 n3927 l3924] w' := by
  generalize (fps [b7 g3920 g3922 a3930 a3931 a3932 a3933, b6 g3922 A3925 m3926 n3927 a3929, r5 A3925 m3926 n3927 l3924]) = FF at HS HGl0 ⊢
  obtain rfl := (row_len (HS.out.at2)).symm
  unfold obj_in.f at H
  go_enter Tryd.func100, Tryd.ntmps100
  by_cases c3935 : a3934 > 0
  · have H := if_yes c3935 H
    have c3935b0 : decide (0 < a3934) = true := decide_eq_true c3935
    clear c3935
    go_wp2_with fail
    obtain ⟨t3936, HA3937, H⟩ := bind_some H
    refine (ground_Ground_Conf.calls l3924 a3929 a3930 a3931 a3932 a3933 g3920 g3922 A3925 l3924.length n3927 t3936 _ ⟨HGl0.out.pass HS.out⟩ ⟨HS.out.begin⟩ HA3937).mono ?_
    rintro e_ w3938 ⟨rfl, hS⟩
    replace HS : Aside0 (Sep FF w [b7 g3920 g3922 a3930 a3931 a3932 a3933, b6 g3922 A3925 l3924.length n3927 a3929, r5 A3925 l3924.length n3927 l3924] w3938) := ⟨HS.out.call hS⟩
    clear hS
    have fl3939 : ∀ w, (Instr.field 30 (.agg #[.int .i64 t3936.1, .int .i64 t3936.2.1, .int .i64 t3936.2.2.1, .int .i64 t3936.2.2.2]) 0).run Tryd.prog w = .ok (.int .i64 t3936.1) w := fun _ => by kernel_rfl
    go_wp2_with fail
    clear fl3939
    go_ret
    rw [← some_eq H]
    exact ⟨(by first | rfl | (simp [IntKind.wrap_u32]; done)), HS.out⟩
  · have H := if_no c3935 H
    have c3935b0 : decide (0 < a3934) = false := decide_eq_false c3935
    clear c3935
    go_wp2_with fail
    go_ret
    rw [← some_eq H]
    exact ⟨(by first | rfl | (simp [IntKind.wrap_u32]; done)), HS.out⟩

set_option maxHeartbeats 30000000 in
set_option maxRecDepth 100000 in
theorem obj_Is.calls (l3908 : List Int) (a3913 : Int) (a3914 : Int) (a3915 : Int) (a3916 : Int) (a3917 : Int) (a3918 : Int) (g3904 : Nat) (g3906 : Nat) (A3909 : Option Addr) (m3910 : Nat) (n3911 : Nat) (r : Bool × Int) (w : World)  (HGl0 : Aside0 (Gl 0 #[.int .i64 0, .int .i64 0, .int .i64 0, .int .i64 0, .int .i64 0] (fps [b7 g3904 g3906 a3914 a3915 a3916 a3917, b6 g3906 A3909 m3910 n3911 a3913, r5 A3909 m3910 n3911 l3908]) w)) (HS : Aside0 (Sep (fps [b7 g3904 g3906 a3914 a3915 a3916 a3917, b6 g3906 A3909 m3910 n3911 a3913, r5 A3909 m3910 n3911 l3908]) w [b7 g3904 g3906 a3914 a3915 a3916 a3917, b6 g3906 A3909 m3910 n3911 a3913, r5 A3909 m3910 n3911 l3908] w)) (H : Aside0 (obj_Is.f l3908 a3913 a3914 a3915 a3916 a3917 a3918 = some r)) :
    Calls Tryd.prog 48 #[.pointer (some ⟨g3904, 0, none⟩), .int .i64 a3918] w fun e w' => e = .returned (.bool r.1) ∧ Sep (fps [b7 g3904 g3906 a3914 a3915 a3916 a3917, b6 g3906 A3909 m3910 n3911 a3913, r5 A3909 m3910 n3911 l3908]) w [b7 g3904 g3906 a3914 a3915 a3916 a3917, b6 g3906 A3909 m3910 n3911 r.2, r5 A3909 m3910 n3911 l3908] w' := by
  generalize (fps [b7 g3904 g3906 a3914 a3915 a3916 a3917, b6 g3906 A3909 m3910 n3911 a3913, r5 A3909 m3910 n3911 l3908]) = FF at HS HGl0 ⊢
  obtain rfl := (row_len (HS.out.at2)).symm
  unfold obj_Is.f at H
  go_enter Tryd.func48, Tryd.ntmps48
  go_wp2_with fail
  obtain ⟨t3954, HA3955, H⟩ := bind_some H
  refine (obj_in.calls l3908 a3913 a3914 a3915 a3916 a3917 a3918 g3904 g3906 A3909 l3908.length n3911 t3954 _ ⟨HGl0.out.pass HS.out⟩ ⟨HS.out.begin⟩ HA3955).mono ?_
  rintro e_ w3956 ⟨rfl, hS⟩
  replace HS : Aside0 (Sep FF w [b7 g3904 g3906 a3914 a3915 a3916 a3917, b6 g3906 A3909 l3908.length n3911 a3913, r5 A3909 l3908.length n3911 l3908] w3956) := ⟨HS.out.call hS⟩
  clear hS
  by_cases c3957 : t3954 = true
  · have H := if_yes c3957 H
    have c3957b0 : t3954 = true := c3957
    have c3957b1 : (!t3954) = false := by rw [c3957b0]; rfl
    clear c3957
    go_wp2_with fail
    obtain ⟨t3958, HA3959, H⟩ := bind_some H
    refine (ground_Ground_Word.calls l3908 a3913 a3914 a3915 a3916 a3917 (wrap64 (a3918 - 1)) 0 g3904 g3906 A3909 l3908.length n3911 t3958 _ ⟨HGl0.out.pass HS.out⟩ ⟨HS.out.begin⟩ HA3959).mono ?_
    rintro e_ w3960 ⟨rfl, hS⟩
    replace HS : Aside0 (Sep FF w [b7 g3904 g3906 a3914 a3915 a3916 a3917, b6 g3906 A3909 l3908.length n3911 t3958.2, r5 A3909 l3908.length n3911 l3908] w3960) := ⟨HS.out.call hS⟩
    clear hS
    go_wp2_with fail
    obtain ⟨t3961, HA3962, H⟩ := bind_some H
    refine (tag_Unpack.calls t3958.1 t3961 _ ⟨HGl0.out.pass (l := []) HS.out⟩ ⟨Sep.start _⟩ HA3962).mono ?_
    rintro e_ w3963 ⟨rfl, hS⟩
    replace HS : Aside0 (Sep FF w [b7 g3904 g3906 a3914 a3915 a3916 a3917, b6 g3906 A3909 l3908.length n3911 t3958.2, r5 A3909 l3908.length n3911 l3908] w3963) := ⟨HS.out.call hS⟩
    clear hS
    have fl3964 : ∀ w, (Instr.field 32 (.agg #[.int .i64 t3961.1, .int .i64 t3961.2.1, .int .i64 t3961.2.2.1, .int .i64 t3961.2.2.2.1, .int .i64 t3961.2.2.2.2.1, .int .i64 t3961.2.2.2.2.2.1, .int .i64 t3961.2.2.2.2.2.2]) 0).run Tryd.prog w = .ok (.int .i64 t3961.1) w := fun _ => by kernel_rfl
    go_wp2_with fail
    clear fl3964
    obtain ⟨t3965, HA3966, H⟩ := bind_some H
    refine (obj_isHead.calls t3961.1 t3965 _ ⟨HGl0.out.pass (l := []) HS.out⟩ ⟨Sep.start _⟩ HA3966).mono ?_
    rintro e_ w3967 ⟨rfl, hS⟩
    replace HS : Aside0 (Sep FF w [b7 g3904 g3906 a3914 a3915 a3916 a3917, b6 g3906 A3909 l3908.length n3911 t3958.2, r5 A3909 l3908.length n3911 l3908] w3967) := ⟨HS.out.call hS⟩
    clear hS
    go_wp2_with fail
    go_ret
    rw [← some_eq H]
    exact ⟨(by first | rfl | (simp [IntKind.wrap_u32]; done)), HS.out⟩
  · have H := if_no c3957 H
    have c3957b0 : t3954 = false := by simpa using c3957
    have c3957b1 : (!t3954) = true := by rw [c3957b0]; rfl
    clear c3957
    go_wp2_with fail
    go_ret
    rw [← some_eq H]
    exact ⟨(by first | rfl | (simp [IntKind.wrap_u32]; done)), HS.out⟩

set_option maxHeartbeats 30000000 in
set_option maxRecDepth 100000 in
theorem count_change.calls (l3890 : List Int) (a3895 : Int) (a3896 : Int) (a3897 : Int) (a3898 : Int) (a3899 : Int) (a3900 : Int) (a3901 : Int) (a3902 : Int) (g3886 : Nat) (g3888 : Nat) (A3891 : Option Addr) (m3892 : Nat) (n3893 : Nat) (r : Int × Bool × Int × List Int) (w : World)  (HGl0 : Aside0 (Gl 0 #[.int .i64 0, .int .i64 0, .int .i64 0, .int .i64 0, .int .i64 0] (fps [b7 g3886 g3888 a3896 a3897 a3898 a3899, b6 g3888 A3891 m3892 n3893 a3895, r5 A3891 m3892 n3893 l3890]) w)) (HS : Aside0 (Sep (fps [b7 g3886 g3888 a3896 a3897 a3898 a3899, b6 g3888 A3891 m3892 n3893 a3895, r5 A3891 m3892 n3893 l3890]) w [b7 g3886 g3888 a3896 a3897 a3898 a3899, b6 g3888 A3891 m3892 n3893 a3895, r5 A3891 m3892 n3893 l3890] w)) (H : Aside0 (count_change.f l3890 a3895 a3896 a3897 a3898 a3899 a3900 a3901 a3902 = some r)) :
    Calls Tryd.prog 103 #[.pointer (some ⟨g3886, 0, none⟩), .int .i64 a3900, .int .i64 a3901, .int .i64 a3902] w fun e w' => e = .returned (.tuple #[.int .i64 r.1, .bool r.2.1]) ∧ Sep (fps [b7 g3886 g3888 a3896 a3897 a3898 a3899, b6 g3888 A3891 m3892 n3893 a3895, r5 A3891 m3892 n3893 l3890]) w [b7 g3886 g3888 a3896 a3897 a3898 a3899, b6 g3888 A3891 m3892 n3893 r.2.2.1, r5 A3891 m3892 n3893 r.2.2.2] w' := by
  generalize (fps [b7 g3886 g3888 a3896 a3897 a3898 a3899, b6 g3888 A3891 m3892 n3893 a3895, r5 A3891 m3892 n3893 l3890]) = FF at HS HGl0 ⊢
  obtain rfl := (row_len (HS.out.at2)).symm
  unfold count_change.f at H
  go_enter Tryd.func103, Tryd.ntmps103
  go_wp2_with fail
  obtain ⟨t3987, HA3988, H⟩ := bind_some H
  refine (obj_Is.calls l3890 a3895 a3896 a3897 a3898 a3899 a3900 g3886 g3888 A3891 l3890.length n3893 t3987 _ ⟨HGl0.out.pass HS.out⟩ ⟨HS.out.begin⟩ HA3988).mono ?_
  rintro e_ w3989 ⟨rfl, hS⟩
  replace HS : Aside0 (Sep FF w [b7 g3886 g3888 a3896 a3897 a3898 a3899, b6 g3888 A3891 l3890.length n3893 t3987.2, r5 A3891 l3890.length n3893 l3890] w3989) := ⟨HS.out.call hS⟩
  clear hS
  by_cases c3990 : t3987.1 = true
  · have H := if_yes c3990 H
    have c3990b0 : t3987.1 = true := c3990
    have c3990b1 : (!t3987.1) = false := by rw [c3990b0]; rfl
    try rw [c3990b1]
    clear c3990
    go_wp2_with fail
    obtain ⟨t3991, HA3992, H⟩ := bind_some H
    refine (ground_Ground_Word.calls l3890 t3987.2 a3896 a3897 a3898 a3899 (wrap64 (a3900 - 1)) 3 g3886 g3888 A3891 l3890.length n3893 t3991 _ ⟨HGl0.out.pass HS.out⟩ ⟨HS.out.begin⟩ HA3992).mono ?_
    rintro e_ w3993 ⟨rfl, hS⟩
    replace HS : Aside0 (Sep FF w [b7 g3886 g3888 a3896 a3897 a3898 a3899, b6 g3888 A3891 l3890.length n3893 t3991.2, r5 A3891 l3890.length n3893 l3890] w3993) := ⟨HS.out.call hS⟩
    clear hS
    by_cases c3994 : (wrap64 (t3991.1)) = a3902
    · have H := if_yes c3994 H
      have c3994b0 : ((wrap64 (t3991.1)) == a3902) = true := beq_iff_eq.mpr c3994
      have c3994b1 : ((wrap64 (t3991.1)) != a3902) = false := bne_eq_false_iff_eq.mpr c3994
      clear c3994
      go_wp2_with fail
      go_ret2
      rw [← some_eq H]
      exact ⟨(by first | rfl | (simp [IntKind.wrap_u32]; done)), HS.out⟩
    · have H := if_no c3994 H
      have c3994b0 : ((wrap64 (t3991.1)) == a3902) = false := beq_eq_false_iff_ne.mpr c3994
      have c3994b1 : ((wrap64 (t3991.1)) != a3902) = true := bne_iff_ne.mpr c3994
      clear c3994
      go_wp2_with fail
      obtain ⟨t3995, HA3996, H⟩ := bind_some H
      refine (ground_Ground_SetWord.calls l3890 t3991.2 a3896 a3897 a3898 a3899 (wrap64 (a3900 - 1)) 3 ((wrap64 ((wrap64 (t3991.1)) + a3901)) % 4294967296) g3886 g3888 A3891 l3890.length n3893 t3995 _ ⟨HGl0.out.pass HS.out⟩ ⟨HS.out.begin⟩ HA3996).mono ?_
      rintro e_ w3997 ⟨rfl, hS⟩
      replace HS : Aside0 (Sep FF w [b7 g3886 g3888 a3896 a3897 a3898 a3899, b6 g3888 A3891 l3890.length n3893 t3995.2.1, r5 A3891 l3890.length n3893 t3995.2.2] w3997) := ⟨HS.out.call hS⟩
      clear hS
      go_wp2_with fail
      go_ret2
      rw [← some_eq H]
      exact ⟨(by first | rfl | (simp [IntKind.wrap_u32]; done)), HS.out⟩
  · have H := if_no c3990 H
    have c3990b0 : t3987.1 = false := by simpa using c3990
    have c3990b1 : (!t3987.1) = true := by rw [c3990b0]; rfl
    try rw [c3990b1]
    clear c3990
    go_wp2_with fail
    go_ret2
    rw [← some_eq H]
    exact ⟨(by first | rfl | (simp [IntKind.wrap_u32]; done)), HS.out⟩

set_option maxHeartbeats 30000000 in
set_option maxRecDepth 100000 in
theorem count_Up.calls (l3874 : List Int) (a3879 : Int) (a3880 : Int) (a3881 : Int) (a3882 : Int) (a3883 : Int) (a3884 : Int) (g3870 : Nat) (g3872 : Nat) (A3875 : Option Addr) (m3876 : Nat) (n3877 : Nat) (r : Int × Bool × Int × List Int) (w : World)  (HGl0 : Aside0 (Gl 0 #[.int .i64 0, .int .i64 0, .int .i64 0, .int .i64 0, .int .i64 0] (fps [b7 g3870 g3872 a3880 a3881 a3882 a3883, b6 g3872 A3875 m3876 n3877 a3879, r5 A3875 m3876 n3877 l3874]) w)) (HS : Aside0 (Sep (fps [b7 g3870 g3872 a3880 a3881 a3882 a3883, b6 g3872 A3875 m3876 n3877 a3879, r5 A3875 m3876 n3877 l3874]) w [b7 g3870 g3872 a3880 a3881 a3882 a3883, b6 g3872 A3875 m3876 n3877 a3879, r5 A3875 m3876 n3877 l3874] w)) (H : Aside0 (count_Up.f l3874 a3879 a3880 a3881 a3882 a3883 a3884 = some r)) :
    Calls Tryd.prog 37 #[.pointer (some ⟨g3870, 0, none⟩), .int .i64 a3884] w fun e w' => e = .returned (.tuple #[.int .i64 r.1, .bool r.2.1]) ∧ Sep (fps [b7 g3870 g3872 a3880 a3881 a3882 a3883, b6 g3872 A3875 m3876 n3877 a3879, r5 A3875 m3876 n3877 l3874]) w [b7 g3870 g3872 a3880 a3881 a3882 a3883, b6 g3872 A3875 m3876 n3877 r.2.2.1, r5 A3875 m3876 n3877 r.2.2.2] w' := by
  generalize (fps [b7 g3870 g3872 a3880 a3881 a3882 a3883, b6 g3872 A3875 m3876 n3877 a3879, r5 A3875 m3876 n3877 l3874]) = FF at HS HGl0 ⊢
  obtain rfl := (row_len (HS.out.at2)).symm
  unfold count_Up.f at H
  go_enter Tryd.func37, Tryd.ntmps37
  go_wp2_with fail
  obtain ⟨t4001, HA4002, H⟩ := bind_some H
  refine (count_change.calls l3874 a3879 a3880 a3881 a3882 a3883 a3884 1 4294967295 g3870 g3872 A3875 l3874.length n3877 t4001 _ ⟨HGl0.out.pass HS.out⟩ ⟨HS.out.begin⟩ HA4002).mono ?_
  rintro e_ w4003 ⟨rfl, hS⟩
  replace HS : Aside0 (Sep FF w [b7 g3870 g3872 a3880 a3881 a3882 a3883, b6 g3872 A3875 l3874.length n3877 t4001.2.2.1, r5 A3875 l3874.length n3877 t4001.2.2.2] w4003) := ⟨HS.out.call hS⟩
  clear hS
  go_wp2_with fail
  go_ret2
  rw [← some_eq H]
  exact ⟨(by first | rfl | (simp [IntKind.wrap_u32]; done)), HS.out⟩

set_option maxHeartbeats 30000000 in
set_option maxRecDepth 100000 in
theorem count_Down.calls (l4013 : List Int) (a4018 : Int) (a4019 : Int) (a4020 : Int) (a4021 : Int) (a4022 : Int) (a4023 : Int) (g4009 : Nat) (g4011 : Nat) (A4014 : Option Addr) (m4015 : Nat) (n4016 : Nat) (r : Int × Bool × Int × List Int) (w : World)  (HGl0 : Aside0 (Gl 0 #[.int .i64 0, .int .i64 0, .int .i64 0, .int .i64 0, .int .i64 0] (fps [b7 g4009 g4011 a4019 a4020 a4021 a4022, b6 g4011 A4014 m4015 n4016 a4018, r5 A4014 m4015 n4016 l4013]) w)) (HS : Aside0 (Sep (fps [b7 g4009 g4011 a4019 a4020 a4021 a4022, b6 g4011 A4014 m4015 n4016 a4018, r5 A4014 m4015 n4016 l4013]) w [b7 g4009 g4011 a4019 a4020 a4021 a4022, b6 g4011 A4014 m4015 n4016 a4018, r5 A4014 m4015 n4016 l4013] w)) (H : Aside0 (count_Down.f l4013 a4018 a4019 a4020 a4021 a4022 a4023 = some r)) :
    Calls Tryd.prog 38 #[.pointer (some ⟨g4009, 0, none⟩), .int .i64 a4023] w fun e w' => e = .returned (.tuple #[.int .i64 r.1, .bool r.2.1]) ∧ Sep (fps [b7 g4009 g4011 a4019 a4020 a4021 a4022, b6 g4011 A4014 m4015 n4016 a4018, r5 A4014 m4015 n4016 l4013]) w [b7 g4009 g4011 a4019 a4020 a4021 a4022, b6 g4011 A4014 m4015 n4016 r.2.2.1, r5 A4014 m4015 n4016 r.2.2.2] w' := by
  generalize (fps [b7 g4009 g4011 a4019 a4020 a4021 a4022, b6 g4011 A4014 m4015 n4016 a4018, r5 A4014 m4015 n4016 l4013]) = FF at HS HGl0 ⊢
  obtain rfl := (row_len (HS.out.at2)).symm
  unfold count_Down.f at H
  go_enter Tryd.func38, Tryd.ntmps38
  go_wp2_with fail
  obtain ⟨t4027, HA4028, H⟩ := bind_some H
  refine (count_change.calls l4013 a4018 a4019 a4020 a4021 a4022 a4023 (-1) 0 g4009 g4011 A4014 l4013.length n4016 t4027 _ ⟨HGl0.out.pass HS.out⟩ ⟨HS.out.begin⟩ HA4028).mono ?_
  rintro e_ w4029 ⟨rfl, hS⟩
  replace HS : Aside0 (Sep FF w [b7 g4009 g4011 a4019 a4020 a4021 a4022, b6 g4011 A4014 l4013.length n4016 t4027.2.2.1, r5 A4014 l4013.length n4016 t4027.2.2.2] w4029) := ⟨HS.out.call hS⟩
  clear hS
  go_wp2_with fail
  go_ret2
  rw [← some_eq H]
  exact ⟨(by first | rfl | (simp [IntKind.wrap_u32]; done)), HS.out⟩
end Go.Proofs.YtobeonkddamnoaaDoor.C
